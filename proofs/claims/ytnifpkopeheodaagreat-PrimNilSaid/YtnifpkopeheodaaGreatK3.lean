/- What the claim leans on, part 3. Laws. -/
import Derived.Test.YtnifpkopeheodaaGreatK2
import Derived.Test.YtnifpkopeheodaaGreatRows
import Derived.KernelRfl
import Derived.Conc.SmallLaws
set_option linter.unusedVariables false
section
namespace Go.Vy
open Go Go.Conc Go.Yc Go.RowKit
open Go.Vc
def O1 (w:World) (b:Nat) (cs:Array Value) (T:TypeId) (f:Nat×Nat):Prop:=w.heap[b]? =some (.cells cs T f)
section
variable {w w':World}{b o:Nat}{cs:Array Value}{T:TypeId}{f:Nat×Nat}{v:Value}
theorem m4 (h:V0 w b cs T):O1 w b cs T (0,0):=h
theorem O1.lt (h:O1 w b cs T f):b<w.heap.size:=(Array.getElem?_eq_some_iff.1 h).1
theorem O1.cell (h:O1 w b cs T f) (hv:cs[o]? =some v):w.cell? ⟨b,o,none⟩=some v:=by
 unfold O1 at h;simp[World.cell?,h,hv]
theorem O1.A0 (h:O1 w b cs T f) (o:Nat) {v:Value} (hv:cs[o]? =some v):w.cell? ⟨b,o,none⟩=some v:=h.cell hv
theorem O1.J1 (h:O1 w b cs T f) {o:Nat} {l:List Value} (hl:(cs.toList.drop o).take l.length=l):∀(j:Nat) (v:Value),l[j]? =some v->w.cell? ⟨b,o+j,none⟩=some v:=by
 intro j v hj;refine h.cell ?_;have T2:j<l.length:=(List.getElem?_eq_some_iff.1 hj).1;rw[<- hl,List.getElem?_take_of_lt T2,List.getElem?_drop]at hj;simpa using hj
theorem O1.frozen (h:O1 w b cs T f) (o:Nat):w.frozen? ⟨b,o,none⟩=(decide (f.1 <=o)&&decide (o<f.2)):=by
 unfold O1 at h;obtain⟨lo,hi⟩:=f;simp[World.frozen?,h]
theorem O1.E0 (h:O1 w b cs T f) (hb:Below w.heap.size w w'):O1 w' b cs T f:=(hb.block b h.lt).trans h
theorem O1.other {b':Nat} (h:O1 w b cs T f) (hg:w.grownBy w' (some b')) (r3:b≠b'):O1 w' b cs T f:=(hg.block b h.lt (by simpa using r3)).trans h
theorem O1.grown {row:Option Nat} (h:O1 w b cs T f) (hg:w.grownBy w' row) (r3:some b≠row):O1 w' b cs T f:=(hg.block b h.lt r3).trans h
theorem O1.ne {b':Nat} {O5:Array Value} {T':TypeId} {f':Nat×Nat} (h:O1 w b cs T f) (h':O1 w b' O5 T' f') (hT:T≠T'):b≠b':=by
 intro hb;subst hb;unfold O1 at h h';rw[h]at h';exact hT (by cases h';rfl)
end
def P1 (w:World) (b:Nat) (cs:Array Value) (T:TypeId) (f:Nat×Nat):World:={w with heap:=w.heap.setIfInBounds b (.cells cs T f)}
section
variable {w:World}{b:Nat}{cs O5:Array Value}{T T':TypeId}{f:Nat×Nat}
theorem w5:(P1 w b cs T f).heap.size=w.heap.size:=by simp[P1]
theorem T4 (h:O1 w b cs T f) (O5:Array Value) (T':TypeId) (f':Nat×Nat):O1 (P1 w b O5 T' f') b O5 T' f':=by
 have:=h.lt;simp[O1,P1,this]
theorem Y6 {k:Nat} (h:k≠b):(P1 w b cs T f).heap[k]? =w.heap[k]?:=by
 simp only[P1];rw[Array.getElem?_setIfInBounds_ne (Ne.symm h)]
theorem o2 (w:World) (b:Nat) (cs:Array Value) (T:TypeId) (f:Nat×Nat):w.grownBy (P1 w b cs T f) (some b) :=
 ⟨rfl,rfl,rfl,Nat.le_of_eq w5.symm,fun k _ hk=>Y6 (fun e=>hk (by rw[e]))⟩
theorem cd0 {o:Nat} (h:O1 w b cs T f) (v:Value):w.setCell ⟨b,o,none⟩ v=P1 w b (cs.setIfInBounds o v) T f:=by
 have hl:=h.lt;have hg:w.heap[b]= .cells cs T f:=by have:=h;unfold O1 at this;rw[Array.getElem?_eq_getElem hl]at this;exact Option.some.inj this
 simp only[World.setCell,P1];congr 1;apply Array.ext_getElem?;intro i;by_cases hi:i=b
 ·subst hi;rw[Array.getElem?_modify,if_pos rfl,Array.getElem?_eq_getElem hl,hg];simp[hl]
 ·rw[Array.getElem?_modify,Array.getElem?_setIfInBounds_ne (Ne.symm hi),if_neg (Ne.symm hi)]
theorem nj0 (w:World) (b:Nat) (cs O5:Array Value) (T:TypeId) (f:Nat×Nat):P1 (P1 w b cs T f) b O5 T f=P1 w b O5 T f:=by
 simp[P1]
theorem sx0 (h:O1 w b cs T f):P1 w b cs T f=w:=by
 have hl:=h.lt;have hg:w.heap[b]= .cells cs T f:=by have:=h;unfold O1 at this;rw[Array.getElem?_eq_getElem hl]at this;exact Option.some.inj this
 have:w.heap.setIfInBounds b (.cells cs T f)=w.heap:=by
  apply Array.ext_getElem?;intro i;by_cases hi:i=b
  ·subst hi;simp[hl,hg]
  ·rw[Array.getElem?_setIfInBounds_ne (Ne.symm hi)]
 simp only[P1,this]
end
theorem X8 {P:Program} (b:Nat) (T:TypeId) (f:Nat×Nat):∀(vs:List Value) (o i:Nat) (cs:Array Value) (w:World),O1 w b cs T f->o+i+vs.length <=cs.size->(o+i+vs.length <=f.1\/f.2 <=o+i)->(∀v∈vs,v.oneCell'=true) ->
  (storeCells ⟨b,o,none⟩ vs i).run P w= .ok () (P1 w b (setRow cs (o+i) vs) T f)
 | [],o,i,cs,w,h,_,_,_=>by simp[storeCells,setRow,sx0 h]
 |v::vs,o,i,cs,w,h,hl,hf,h1=>by
  have ha:Addr.add ⟨b,o,none⟩ i=⟨b,o+i,none⟩:=by
   unfold Addr.add;split
   ·rename_i h0;simp[]
   ·rfl
  have T2:o+i<cs.size:=by simp only[List.length_cons]at hl;omega
  have hc:=h.cell (Array.getElem?_eq_getElem T2);have hfr:w.frozen? ⟨b,o+i,none⟩=false:=by
   rw[h.frozen];simp only[List.length_cons]at hf;rw[Bool.and_eq_false_iff];rcases hf with hf|hf
   ·exact .inl (decide_eq_false (by omega))
   ·exact .inr (decide_eq_false (by omega))
  have ih:=X8 (P:=P) b T f vs o (i+1) (cs.setIfInBounds (o+i) v) (P1 w b (cs.setIfInBounds (o+i) v) T f) (T4 h _ _ _) (by simp only[List.length_cons]at hl;simp;omega) (by simp only[List.length_cons]at hf;omega) (fun u hu=>h1 u (List.mem_cons_of_mem _ hu));rw[nj0]at ih;simp only[storeCells,Sem.run_bind,ha,run_store P w _ v .plain (h1 v List.mem_cons_self),hc,hfr,Bool.false_eq_true,if_false,Result.andThen_ok,cd0 h v];rw[ih];rfl
section
variable {P:Program}[Ctx P]{n:Nat}{ops:Array Oper}{Q:Exit->Env->World->Prop}{rest:List Oper}{e:Env}{w:World}{ty:TypeId}{ps:String}{af:Array Edge}{x y:Operand}{T:TypeId}
theorem L.Bm0 {b o s:Nat} {cs:Array Value} {vs:List Value} {E:TypeId} {f:Nat×Nat} {v:Value} (O5:Array Value) (hx:ev e x= .pointer (some ⟨b,o,none⟩)) (hy:ev e y=v) (hvs:v.cells.toList=vs) (hs:(P.info? T).map (·.size)=some s) (hl:vs.length=s) (h1:vs.all Value.oneCell'=true) (hB:O1 w b cs E f) (ho:o+s <=cs.size) (hf:o+s <=f.1\/f.2 <=o) (hcs:setRow cs o vs=O5)
  (k:L P n ops Q rest e (P1 w b O5 E f)):L P n ops Q (⟨none,.store T x y,ty,ps,af,none⟩::rest) e w:=by
 have Jm0:v.cells=vs.toArray:=by rw[<- hvs]
 have h1':∀u∈vs,u.oneCell'=true:=fun u hu=>List.all_eq_true.1 h1 u hu;rw[<- hcs]at k;refine L.st (w':=P1 w b (setRow cs o vs) E f) (.A1 (E2 rfl _) rfl rfl fun τ d=>?_) k;have:=X8 (P:=P) b E f vs o 0 cs (j3 w τ d) hB (by simp;omega) (by simp;omega) h1';show _=Result.ok Next.skip (P1 (j3 w τ d) b (setRow cs o vs) E f);simp[execOp,Instr.storeAt,hx,hy,Instr.sureAddr,storeVar,Go.Vc.run_sizeOf hs,Jm0,hl,this]
end
section
variable {P:Program}[Ctx P]{n:Nat}{Q:Exit->Env->World->Prop}{e:Env}{w:World}{ops:Array Oper}{rest:List Oper}
variable {d:Nat}{ty:TypeId}{ps:String}{af:Array Edge}{T E:TypeId}{x y:Operand}
theorem L.sy0 {B s bytes m c':Nat} {a:Option Addr} {k c:Nat} {xs news:List Value} {zv:Value} {ad:Addr} (hx:ev e x= .slice a k c) (hy:ev e y= .slice (some ad) m c') (hT:P.underlying T=some (.slice E))
  (hi:(P.info? E).map (fun i=>(i.zero,i.size,i.bytes))=some (some zv,s,bytes)) (hz:zv.cells.size=s) (hs:0<s) (q7:Own w B E s a k c xs)
  (hl:news.length=m*s) (ag0:∀(j:Nat) u,news[j]? =some u->w.cell? (ad.add j)=some u) (h1:∀u∈news,u.oneCell'=true) (uv0:k+m <=9223372036854775807) (hb:(k+m)*bytes <=140737488355328) (hB:B <=w.heap.size)
  (h:∀a' c2 w',Own w' B E s a' (k+m) c2 (xs++news)->w.grownBy w' (Value.ownBlock (.slice a k c))->(a'≠none->(a≠none/\ab a'=ab a)\/w.heap.size <=ab a')->L P n ops Q rest (upd e d (.slice a' (k+m) c2)) w') :
  L P n ops Q (⟨some d,.call ⟨.builtin .append,#[x,y],#[T,T]⟩,ty,ps,af,none⟩::rest) e w:=by
 cases a with
 |none=>
  have h0:k=0/\c=0/\xs=[]:=by
   have hln:=q7.1;rcases q7.2 with⟨hv,h0⟩|⟨g,cap,cur,hv,_⟩
   ·cases hv;exact⟨rfl,rfl,by
     rw[Nat.zero_mul]at hln;exact List.eq_nil_of_length_eq_zero hln⟩
   ·cases hv
  obtain⟨rfl,rfl,rfl⟩:=h0;refine L.dn0 hx hy hT hi hz hs (Own.nil w w.heap.size E s) (fun h=>by cases h) hl (fun ad' e=>by cases e;exact ag0) h1 uv0 hb (Nat.le_refl _) fun a' c2 w' hO hg _ _=>?_;refine h a' c2 w' (hO.down hB) hg fun ha=>.inr ?_;exact(hO.row ha).choose_spec.2.1
 |some a0=>
  have ha0:∃b,a0=⟨b,0,none⟩:=by
   rcases q7.2 with⟨hv,_⟩|⟨g,cap,cur,hv,_⟩
   ·cases hv
   ·cases hv;exact⟨g,rfl⟩
  obtain⟨b,rfl⟩:=ha0;refine L.Jo0 hx hy hT hi hz hs q7 hl ag0 h1 uv0 hb hB fun b' c2 w' hO hg hw=>?_;refine h _ c2 w' hO hg fun _=>?_;rcases hw with⟨rfl,_⟩|⟨rfl,_⟩
  ·exact .inl ⟨by simp,rfl⟩
  ·exact .inr (Nat.le_refl _)
end
structure er0 (S:Nat->Prop) (B:Nat) (w w':World):Prop where
 os:w'.os=w.os
 tape:w'.tape=w.tape
 output:w'.output=w.output
 size:w.heap.size <=w'.heap.size
 block:∀k,k<B->¬S k->w'.heap[k]? =w.heap[k]?
section
variable {S:Nat->Prop}{B:Nat}{w w1 w2:World}
theorem er0.refl (S:Nat->Prop) (B:Nat) (w:World):er0 S B w w:=⟨rfl,rfl,rfl,Nat.le_refl _,fun _ _ _=>rfl⟩
theorem er0.trans (h:er0 S B w w1) (h':er0 S B w1 w2):er0 S B w w2:=⟨h'.os.trans h.os,h'.tape.trans h.tape,h'.output.trans h.output,Nat.le_trans h.size h'.size,fun k hk hs=>(h'.block k hk hs).trans (h.block k hk hs)⟩
theorem er0.below (h:er0 S B w w1) (hb:Below w1.heap.size w1 w2) (hB:B <=w1.heap.size):er0 S B w w2:=h.trans ⟨hb.os,hb.tape,hb.output,hb.size,fun k hk _=>hb.block k (by omega)⟩
theorem er0.grown {row:Option Nat} (h:er0 S B w w1) (hg:w1.grownBy w2 row) (hB:B <=w1.heap.size) (hr:∀r,row=some r->S r\/B <=r):er0 S B w w2 :=
 h.trans ⟨hg.os,hg.tape,hg.output,hg.size,fun k hk hs=>hg.block k (by omega) (fun e=>by rcases hr k e.symm with z|z;exact hs z;omega)⟩
theorem Own.congr {E:TypeId} {s n c:Nat} {a:Option Addr} {xs:List Value} (h:Own w B E s a n c xs) (he:a≠none->w1.heap[ab a]? =w.heap[ab a]?):Own w1 B E s a n c xs:=by
 refine⟨h.1,?_⟩;rcases h.2 with h1|⟨g,cap,cur,hv,hb,hg,h2⟩
 ·exact .inl h1
 ·refine .inr ⟨g,cap,cur,hv,hb,?_,h2⟩;cases hv;exact(he (by simp)).trans hg
end
end Go.Vy
end
section
namespace Go.Proofs.YtnifpkopeheodaaGreat
theorem sz1:(Tryz.prog.info? 1).map (·.size)=some 1:=by kernel_rfl
theorem zr1:(Tryz.prog.info? 1).bind (·.zero)=some (.nilFunc):=by kernel_rfl
theorem sz2:(Tryz.prog.info? 2).map (·.size)=some 1:=by kernel_rfl
theorem zr2:(Tryz.prog.info? 2).bind (·.zero)=some (.int .i64 0):=by kernel_rfl
theorem in2:(Tryz.prog.info? 2).map (fun i=>(i.zero,i.size,i.bytes))=some (some (.int .i64 0),1,8):=by kernel_rfl
theorem sz3:(Tryz.prog.info? 3).map (·.size)=some 1:=by kernel_rfl
theorem zr3:(Tryz.prog.info? 3).bind (·.zero)=some (.int .i64 0):=by kernel_rfl
theorem in3:(Tryz.prog.info? 3).map (fun i=>(i.zero,i.size,i.bytes))=some (some (.int .i64 0),1,8):=by kernel_rfl
theorem sz4:(Tryz.prog.info? 4).map (·.size)=some 1:=by kernel_rfl
theorem zr4:(Tryz.prog.info? 4).bind (·.zero)=some (.bool false):=by kernel_rfl
theorem Jw0:(Tryz.prog.info? 23).map (·.size)=some 1:=by kernel_rfl
theorem Pw0:(Tryz.prog.info? 25).map (·.size)=some 1:=by kernel_rfl
theorem Jx0:(Tryz.prog.info? 26).map (·.size)=some 1:=by kernel_rfl
theorem Px0:(Tryz.prog.info? 28).map (·.size)=some 1:=by kernel_rfl
theorem je0:(Tryz.prog.info? 30).map (·.size)=some 6:=by kernel_rfl
theorem Jy0:(Tryz.prog.info? 30).bind (·.zero)=some (.agg #[.slice none 0 0,.slice none 0 0,.slice none 0 0,.slice none 0 0,.bool false,.int .i64 0]):=by kernel_rfl
theorem as1:(Tryz.prog.info? 31).map (·.size)=some 1:=by kernel_rfl
theorem at1:(Tryz.prog.info? 31).bind (·.zero)=some (.slice none 0 0):=by kernel_rfl
theorem Py0:(Tryz.prog.info? 45).map (·.size)=some 1:=by kernel_rfl
theorem au1:(Tryz.prog.info? 45).map (fun i=>(i.zero,i.size,i.bytes))=some (some (.slice none 0 0),1,24):=by kernel_rfl
theorem sz0:(Tryz.prog.info? 47).map (·.size)=some 3:=by kernel_rfl
theorem av1:(Tryz.prog.info? 47).map (fun i=>(i.zero,i.size,i.bytes))=some (some (.agg #[.int .i64 0,.int .i64 0,.int .i64 0]),3,24):=by kernel_rfl
theorem Pz0:(Tryz.prog.info? 49).map (·.size)=some 4:=by kernel_rfl
theorem aw1:(Tryz.prog.info? 49).bind (·.zero)=some (.agg #[.int .i64 0,.int .i64 0,.int .i64 0,.int .i64 0]):=by kernel_rfl
theorem ax1:(Tryz.prog.info? 49).map (fun i=>(i.zero,i.size,i.bytes))=some (some (.agg #[.int .i64 0,.int .i64 0,.int .i64 0,.int .i64 0]),4,32):=by kernel_rfl
theorem Qa0:(Tryz.prog.info? 50).map (·.size)=some 1:=by kernel_rfl
theorem Ux0:(Tryz.prog.info? 50).bind (·.zero)=some (.slice none 0 0):=by kernel_rfl
theorem M1:(Tryz.prog.info? 52).map (·.size)=some 4:=by kernel_rfl
theorem Uy0:(Tryz.prog.info? 52).bind (·.zero)=some (.agg #[.int .i64 0,.int .i64 0,.int .i64 0,.int .i64 0]):=by kernel_rfl
theorem ay1:(Tryz.prog.info? 54).map (·.size)=some 1:=by kernel_rfl
theorem az1:(Tryz.prog.info? 54).bind (·.zero)=some (.pointer none):=by kernel_rfl
theorem Ep0:(Tryz.prog.info? 56).map (·.size)=some 1:=by kernel_rfl
theorem xe0:(Tryz.prog.info? 61).map (·.size)=some 1:=by kernel_rfl
theorem Uz0:(Tryz.prog.info? 62).map (·.size)=some 2:=by kernel_rfl
theorem ta0:(Tryz.prog.info? 63).map (·.size)=some 1:=by kernel_rfl
theorem Va0:(Tryz.prog.info? 64).map (·.size)=some 2:=by kernel_rfl
theorem uz0:(Tryz.prog.info? 65).map (·.size)=some 1:=by kernel_rfl
theorem Qb0:(Tryz.prog.info? 66).map (·.size)=some 2:=by kernel_rfl
theorem va0:(Tryz.prog.info? 67).map (·.size)=some 1:=by kernel_rfl
theorem Qc0:(Tryz.prog.info? 68).map (·.size)=some 2:=by kernel_rfl
theorem vb0:(Tryz.prog.info? 69).map (·.size)=some 1:=by kernel_rfl
theorem Qd0:(Tryz.prog.info? 70).map (·.size)=some 2:=by kernel_rfl
theorem Vb0:(Tryz.prog.info? 73).map (·.size)=some 1:=by kernel_rfl
theorem ba1:(Tryz.prog.info? 73).bind (·.zero)=some (.nilFunc):=by kernel_rfl
theorem bb1:(Tryz.prog.info? 73).map (fun i=>(i.zero,i.size,i.bytes))=some (some (.nilFunc),1,8):=by kernel_rfl
theorem bc1:(Tryz.prog.info? 86).map (·.size)=some 1:=by kernel_rfl
theorem bd1:(Tryz.prog.info? 86).bind (·.zero)=some (.pointer none):=by kernel_rfl
theorem Eq0:(Tryz.prog.info? 91).map (·.size)=some 1:=by kernel_rfl
theorem Vc0:(Tryz.prog.info? 91).bind (·.zero)=some (.pointer none):=by kernel_rfl
theorem Qe0:(Tryz.prog.info? 91).map (fun i=>(i.zero,i.size,i.bytes))=some (some (.pointer none),1,8):=by kernel_rfl
theorem fw0:(Tryz.prog.info? 107).map (·.size)=some 2:=by kernel_rfl
theorem Nc0:(Tryz.prog.info? 111).map (·.size)=some 1:=by kernel_rfl
theorem Vd0:(Tryz.prog.info? 121).map (·.size)=some 1:=by kernel_rfl
theorem Ve0:(Tryz.prog.info? 128).map (·.size)=some 1:=by kernel_rfl
theorem Vf0:(Tryz.prog.info? 130).map (·.size)=some 1:=by kernel_rfl
theorem lb0:(Tryz.prog.info? 136).map (·.size)=some 1:=by kernel_rfl
theorem lc0:(Tryz.prog.info? 138).map (·.size)=some 1:=by kernel_rfl
theorem Er0:(Tryz.prog.info? 139).map (·.size)=some 1:=by kernel_rfl
theorem Nd0:(Tryz.prog.info? 141).map (·.size)=some 2:=by kernel_rfl
theorem Ne0:(Tryz.prog.info? 141).bind (·.zero)=some (.agg #[.int .u64 0,.int .u32 0]):=by kernel_rfl
theorem Es0:(Tryz.prog.info? 146).map (·.size)=some 1:=by kernel_rfl
theorem Nf0:(Tryz.prog.info? 147).map (·.size)=some 1:=by kernel_rfl
theorem Ng0:(Tryz.prog.info? 150).map (·.size)=some 1:=by kernel_rfl
theorem Et0:(Tryz.prog.info? 151).map (·.size)=some 1:=by kernel_rfl
theorem be1:(Tryz.f10.name== "runtime.NumGoroutine")=false:=by kernel_rfl
theorem bf1:(Tryz.f11.name== "runtime.NumGoroutine")=false:=by kernel_rfl
theorem k9:(Tryz.f15.name== "runtime.NumGoroutine")=false:=by kernel_rfl
theorem bg1:(Tryz.f16.name== "runtime.NumGoroutine")=false:=by kernel_rfl
theorem Vg0:(Tryz.f17.name== "runtime.NumGoroutine")=false:=by kernel_rfl
theorem Vh0:(Tryz.f20.name== "runtime.NumGoroutine")=false:=by kernel_rfl
theorem Vi0:(Tryz.f21.name== "runtime.NumGoroutine")=false:=by kernel_rfl
theorem Vj0:(Tryz.f22.name== "runtime.NumGoroutine")=false:=by kernel_rfl
theorem Vk0:(Tryz.f23.name== "runtime.NumGoroutine")=false:=by kernel_rfl
theorem Vl0:(Tryz.f24.name== "runtime.NumGoroutine")=false:=by kernel_rfl
theorem Vm0:(Tryz.f25.name== "runtime.NumGoroutine")=false:=by kernel_rfl
theorem Vn0:(Tryz.f26.name== "runtime.NumGoroutine")=false:=by kernel_rfl
theorem Vo0:(Tryz.f27.name== "runtime.NumGoroutine")=false:=by kernel_rfl
theorem Vp0:(Tryz.f28.name== "runtime.NumGoroutine")=false:=by kernel_rfl
theorem Vq0:(Tryz.f29.name== "runtime.NumGoroutine")=false:=by kernel_rfl
theorem Vr0:(Tryz.f30.name== "runtime.NumGoroutine")=false:=by kernel_rfl
theorem Vs0:(Tryz.f33.name== "runtime.NumGoroutine")=false:=by kernel_rfl
theorem Vt0:(Tryz.f34.name== "runtime.NumGoroutine")=false:=by kernel_rfl
theorem Vu0:(Tryz.f36.name== "runtime.NumGoroutine")=false:=by kernel_rfl
theorem j5:(Tryz.f37.name== "runtime.NumGoroutine")=false:=by kernel_rfl
theorem gv0:(Tryz.f39.name== "runtime.NumGoroutine")=false:=by kernel_rfl
theorem Vv0:(Tryz.f41.name== "runtime.NumGoroutine")=false:=by kernel_rfl
theorem Vw0:(Tryz.f42.name== "runtime.NumGoroutine")=false:=by kernel_rfl
theorem Vx0:(Tryz.f43.name== "runtime.NumGoroutine")=false:=by kernel_rfl
theorem tb0:(Tryz.f44.name== "runtime.NumGoroutine")=false:=by kernel_rfl
theorem bh1:(Tryz.f45.name== "runtime.NumGoroutine")=false:=by kernel_rfl
theorem bi1:(Tryz.f46.name== "runtime.NumGoroutine")=false:=by kernel_rfl
theorem bj1:(Tryz.f47.name== "runtime.NumGoroutine")=false:=by kernel_rfl
theorem bk1:(Tryz.f48.name== "runtime.NumGoroutine")=false:=by kernel_rfl
theorem bl1:(Tryz.f49.name== "runtime.NumGoroutine")=false:=by kernel_rfl
theorem Vy0:(Tryz.f51.name== "runtime.NumGoroutine")=false:=by kernel_rfl
theorem Vz0:(Tryz.f52.name== "runtime.NumGoroutine")=false:=by kernel_rfl
theorem Wa0:(Tryz.f53.name== "runtime.NumGoroutine")=false:=by kernel_rfl
theorem Wb0:(Tryz.f54.name== "runtime.NumGoroutine")=false:=by kernel_rfl
theorem Wc0:(Tryz.f55.name== "runtime.NumGoroutine")=false:=by kernel_rfl
theorem jf0:(Tryz.f56.name== "runtime.NumGoroutine")=false:=by kernel_rfl
theorem Wd0:(Tryz.f57.name== "runtime.NumGoroutine")=false:=by kernel_rfl
theorem We0:(Tryz.f58.name== "runtime.NumGoroutine")=false:=by kernel_rfl
theorem Wf0:(Tryz.f60.name== "runtime.NumGoroutine")=false:=by kernel_rfl
theorem bm1:(Tryz.f61.name== "runtime.NumGoroutine")=false:=by kernel_rfl
theorem Wg0:(Tryz.f62.name== "runtime.NumGoroutine")=false:=by kernel_rfl
theorem Wh0:(Tryz.f64.name== "runtime.NumGoroutine")=false:=by kernel_rfl
theorem Jz0:(Tryz.f66.name== "runtime.NumGoroutine")=false:=by kernel_rfl
theorem bn1:(Tryz.f67.name== "runtime.NumGoroutine")=false:=by kernel_rfl
theorem Wi0:(Tryz.f68.name== "runtime.NumGoroutine")=false:=by kernel_rfl
theorem bo1:(Tryz.f69.name== "runtime.NumGoroutine")=false:=by kernel_rfl
theorem Qf0:(Tryz.f70.name== "runtime.NumGoroutine")=false:=by kernel_rfl
theorem Wj0:(Tryz.f72.name== "runtime.NumGoroutine")=false:=by kernel_rfl
theorem bp1:(Tryz.f74.name== "runtime.NumGoroutine")=false:=by kernel_rfl
theorem bq1:(Tryz.f75.name== "runtime.NumGoroutine")=false:=by kernel_rfl
theorem br1:(Tryz.f76.name== "runtime.NumGoroutine")=false:=by kernel_rfl
theorem Wk0:(Tryz.f77.name== "runtime.NumGoroutine")=false:=by kernel_rfl
theorem bs1:(Tryz.f78.name== "runtime.NumGoroutine")=false:=by kernel_rfl
theorem bt1:(Tryz.f79.name== "runtime.NumGoroutine")=false:=by kernel_rfl
theorem bu1:(Tryz.f80.name== "runtime.NumGoroutine")=false:=by kernel_rfl
theorem bv1:(Tryz.f81.name== "runtime.NumGoroutine")=false:=by kernel_rfl
theorem bw1:(Tryz.f82.name== "runtime.NumGoroutine")=false:=by kernel_rfl
theorem Wl0:(Tryz.f83.name== "runtime.NumGoroutine")=false:=by kernel_rfl
theorem bx1:(Tryz.f85.name== "runtime.NumGoroutine")=false:=by kernel_rfl
theorem Wm0:(Tryz.f87.name== "runtime.NumGoroutine")=false:=by kernel_rfl
theorem Qg0:(Tryz.f88.name== "runtime.NumGoroutine")=false:=by kernel_rfl
theorem jg0:(Tryz.f89.name== "runtime.NumGoroutine")=false:=by kernel_rfl
theorem Wn0:(Tryz.f90.name== "runtime.NumGoroutine")=false:=by kernel_rfl
theorem Wo0:(Tryz.f94.name== "runtime.NumGoroutine")=false:=by kernel_rfl
theorem by1:(Tryz.f95.name== "runtime.NumGoroutine")=false:=by kernel_rfl
theorem Ka0:(Tryz.f96.name== "runtime.NumGoroutine")=false:=by kernel_rfl
theorem bz1:(Tryz.f97.name== "runtime.NumGoroutine")=false:=by kernel_rfl
theorem ca1:(Tryz.f99.name== "runtime.NumGoroutine")=false:=by kernel_rfl
theorem Nh0:(Tryz.f100.name== "runtime.NumGoroutine")=false:=by kernel_rfl
theorem Wp0:(Tryz.f102.name== "runtime.NumGoroutine")=false:=by kernel_rfl
theorem Wq0:(Tryz.f103.name== "runtime.NumGoroutine")=false:=by kernel_rfl
theorem Wr0:(Tryz.f104.name== "runtime.NumGoroutine")=false:=by kernel_rfl
theorem Ws0:(Tryz.f106.name== "runtime.NumGoroutine")=false:=by kernel_rfl
theorem Wt0:(Tryz.f107.name== "runtime.NumGoroutine")=false:=by kernel_rfl
theorem Eu0:(Tryz.f109.name== "runtime.NumGoroutine")=false:=by kernel_rfl
theorem vc0:(Tryz.f110.name== "runtime.NumGoroutine")=false:=by kernel_rfl
theorem Wu0:(Tryz.f111.name== "runtime.NumGoroutine")=false:=by kernel_rfl
theorem Ni0:(Tryz.f112.name== "runtime.NumGoroutine")=false:=by kernel_rfl
theorem Wv0:(Tryz.f113.name== "runtime.NumGoroutine")=false:=by kernel_rfl
theorem Nj0:(Tryz.f162.name== "runtime.NumGoroutine")=false:=by kernel_rfl
theorem Ww0:(Tryz.f163.name== "runtime.NumGoroutine")=false:=by kernel_rfl
theorem Wx0:(Tryz.f164.name== "runtime.NumGoroutine")=false:=by kernel_rfl
theorem Nk0:(Tryz.f165.name== "runtime.NumGoroutine")=false:=by kernel_rfl
theorem Wy0:(Tryz.f166.name== "runtime.NumGoroutine")=false:=by kernel_rfl
theorem Nl0:(Tryz.f167.name== "runtime.NumGoroutine")=false:=by kernel_rfl
theorem Wz0:(Tryz.f168.name== "runtime.NumGoroutine")=false:=by kernel_rfl
theorem Nm0:(Tryz.f169.name== "runtime.NumGoroutine")=false:=by kernel_rfl
theorem Nn0:(Tryz.f170.name== "runtime.NumGoroutine")=false:=by kernel_rfl
theorem No0:(Tryz.f171.name== "runtime.NumGoroutine")=false:=by kernel_rfl
end Go.Proofs.YtnifpkopeheodaaGreat
end
section
namespace Go.Proofs.YtnifpkopeheodaaGreat
open Go.Conc Go.Yc Go.Wg
open Go.Vc (Env upd Y2 ev Y3 H2)
section
attribute [local irreducible] KK
theorem cy0 (d:Nat):deafBehind d #[(⟨.mark .disable,false,true⟩:Event)]=d+1:=rfl
theorem q6 (d:Nat):deafBehind (d+1) #[(⟨.mark .enable,false,true⟩:Event)]=d:=rfl
theorem m8 (d:Nat) {m:Mark} (h:(match m with| .disable| .enable=>false|_=>true)=true):deafBehind d #[(⟨.mark m,false,true⟩:Event)]=d:=by cases m <;> first|rfl|cases h
theorem add1 (v:Nat) (h:v<2147483648):IntKind.u64.wrap (((v*4294967296+0:Nat):Int)+1)=((v*4294967296+1:Nat):Int):=by rw[IntKind.wrap_u64];omega
theorem Xa0:Extern.find Tryz.f87=some (Extern.Race.marked .releaseMerge):=by kernel_rfl
theorem cb1:Extern.find Tryz.f95=some (Extern.Race.marked .read):=by kernel_rfl
theorem Xb0:Extern.find Tryz.f103=some (Extern.Race.marked .write):=by kernel_rfl
theorem Np0:Extern.find Tryz.f100=some (Extern.Race.marked .acquire):=by kernel_rfl
theorem Qh0:Extern.find Tryz.f88=some (fun _=>do mark .disable;pure Extern.Race.none_):=by kernel_rfl
theorem jh0:Extern.find Tryz.f89=some (fun _=>do mark .enable;pure Extern.Race.none_):=by kernel_rfl
theorem Xc0:Extern.find Tryz.f90=some (fun _=>pure (.bool false)):=by kernel_rfl
theorem Ew0:Extern.find Tryz.f109=some (Extern.Atomic.update (Op.intArith .add) .u64 true):=by kernel_rfl
theorem vd0:Extern.find Tryz.f110=some (Extern.Atomic.loadT (.int .u64)):=by kernel_rfl
theorem Xd0:Extern.find Tryz.f111=some Extern.Atomic.storeT:=by kernel_rfl
theorem Nq0:Extern.find Tryz.f112=some (Extern.Atomic.casT (.int .u64)):=by kernel_rfl
theorem cc1:Extern.find Tryz.f99=some Extern.Sync.semrelease:=by kernel_rfl
theorem Xe0:Extern.find Tryz.f104=some Extern.Sync.semacquire:=by kernel_rfl
theorem Nr0:(Tryz.prog.info? 139).map (fun i=>decide (i.size=0))=some false:=by kernel_rfl
theorem zu0:(Tryz.prog.info? 141).map (fun i=>decide (i.size=0))=some false:=by kernel_rfl
set_option maxRecDepth 20000 in
theorem Kb0 (gr:I4) {c:Frame} {cs:List Frame} (hcm:c.mode= .returning) {N:Nat} (hT:QuitsD Tryz.prog N 0 (Conc.G c cs)):∃n,Lt Tryz.prog gr n 0 (Conc.G ((baseD 68).at {tmps:=#[.pointer (some ⟨gr.blk,gr.off,none⟩)]++Array.replicate (Tryz.f68.ntmps-1) undef,defers:=[]} [.code (Tryz.f68.body.getD .skip)]) (c::cs)):=by
 refine⟨N+500,(?_:At (fun m d g=>Lt Tryz.prog gr m d g) (N+500) 4 (baseD 68) (c::cs) [] 0 (Wg.Q6 #[.pointer (some ⟨gr.blk,gr.off,none⟩)]) [.code (Tryz.f68.body.getD .skip)]) _ (C7 _ _ rfl)⟩;refine At.region (C3 _ gr) ?_;refine I0.val (C3 _ gr) (bkd _) rfl (v:=.pointer (some ⟨gr.blk,gr.off,none⟩)) (J0 rfl) ?_;refine I0.call (C3 _ gr) (bkd _) [.pointer (some ⟨gr.blk,gr.off,none⟩),.i (-1)] 117 rfl Tryz.func66 Jz0 rfl rfl rfl (fun cs1 V4=>?_);refine At.seq (C3 _ gr) ?_;refine At.J4 (C3 _ gr) rfl ?_;refine U304 ?_;refine I0.val (C3 _ gr) (Z0 _) rfl (v:=.i (-1)) (J0 rfl) ?_;refine I0.val (C3 _ gr) (Z0 _) rfl (v:=.bool true) (ah0 (r:=true) rfl rfl (by decide)) ?_;refine I0.nil (C3 _ gr) ?_;refine At.J4 (C3 _ gr) rfl ?_;refine At.region (C3 _ gr) ?_;refine I0.val (C3 _ gr) (Z0 _) rfl (v:=.pointer (some ⟨gr.blk,gr.off,none⟩)) (J0 rfl) ?_;refine I0.toUnsafe (Ur0 _ gr) (Z0 _) rfl rfl (.inl rfl) Tryz.underlying165 Tryz.underlying128 zu0 ?_;refine I0.sv0 (C3 _ gr) (Z0 _) .releaseMerge (by simp) rfl rfl Tryz.func87 Wm0 rfl rfl Xa0 rfl ?_;rw[m8 _ rfl];refine U476 ?_;simp only[cy0];refine I0.nil (C3 _ gr) ?_;refine U538 ?_;refine U191 ?_;refine U480 ?_;refine U304 ?_;refine U442 ?_;refine U569 ?_;refine U105 ?_;refine U387 ?_;refine I0.val (C3 _ gr) (Z0 _) rfl (v:=.i (-1)) (J0 rfl) ?_;refine U341 ?_;refine U439 ?_;intro cs2 hb2;refine U520 ?_;refine U228 ?_;refine U349 ?_;refine I0.Na0 (Z0 _) rfl Tryz.func109 Eu0 rfl rfl Ew0 rfl rfl (fun v wt hwt hv r3=>?_) ?_
 ·by_cases hv0:0<v
  ·have hwc:wt=0\/wt=1:=by omega
   rcases hwc with rfl|rfl
   ·refine I0.val (j0 _) (Z0 _) rfl (v:=.int .u64 (((v*4294967296+0:Nat):Int))) (S0 rfl) ?_;refine I0.nil (j0 _) ?_;refine At.ret (j0 _) (fun _=>?_);refine U364 ?_;refine U41 ?_;refine U358 ?_;refine U88 ?_;refine U158 ?_;refine U401 ?_;refine I0.nil (j0 _) ?_;refine U158 ?_;refine U430 ?_;refine U41 ?_;refine U156 ?_;refine U215 ?_;refine U218 ?_;refine U277 ?_;refine U216 ?_;refine At.ret (j0 _) (fun _=>?_);refine AtR.mark (j0 _) .enable (by simp) rfl Tryz.func89 jg0 rfl rfl jh0 ?_;simp only[q6];refine U47 ?_;refine At.done (j0 _) (fun _=>?_);exact U46
   ·refine I0.val (j0 _) (Z0 _) rfl (v:=.int .u64 (((v*4294967296+1:Nat):Int))) (S0 rfl) ?_;refine I0.nil (j0 _) ?_;refine At.ret (j0 _) (fun _=>?_);refine U365 ?_;refine U41 ?_;refine U359 ?_;refine U88 ?_;refine U159 ?_;refine U400 ?_;refine I0.nil (j0 _) ?_;refine U159 ?_;refine U352 ?_;refine U504 ?_;refine U156 ?_;refine U215 ?_;refine U45 ?_;refine U392 ?_;refine U156 ?_;refine U287 ?_;refine U216 ?_;refine At.ret (j0 _) (fun _=>?_);refine AtR.mark (j0 _) .enable (by simp) rfl Tryz.func89 jg0 rfl rfl jh0 ?_;simp only[q6];refine U47 ?_;refine At.done (j0 _) (fun _=>?_);exact U46
  ·obtain rfl:v=0:=by omega
   obtain rfl:wt=0:=by omega
   refine U233 ?_;refine At.ret (j0 _) (fun _=>?_);refine U445 ?_;refine U45 ?_;refine U360 ?_;refine U88 ?_;refine U160 ?_;refine U340 ?_;refine U440 ?_;refine U160 ?_;refine U431 ?_;refine U41 ?_;refine U156 ?_;refine U225 ?_;refine U221 ?_;refine U453 ?_;refine U218 ?_;refine U221 ?_;refine U393 ?_;refine U384 ?_;refine U466 ?_;refine At.J4 (j0 _) rfl ?_;refine At.ret (j0 _) (fun _=>?_);refine AtR.mark (j0 _) .enable (by simp) rfl Tryz.func89 jg0 rfl rfl jh0 ?_;simp only[q6];refine U47 ?_;refine At.done (j0 _) (fun _=>?_);exact U46
 ·refine I0.val (Q0 _ gr 2) (Z0 _) rfl (v:=.int .u64 (((0*4294967296+1:Nat):Int))) (S0 rfl) ?_;refine I0.nil (Q0 _ gr 2) ?_;refine At.ret (Q0 _ gr 2) (fun _=>?_);refine U362 ?_;refine U565 ?_;refine U75 ?_;refine U361 ?_;refine U76 ?_;refine U51 ?_;refine U75 ?_;refine U338 ?_;refine U434 ?_;refine U75 ?_;refine U350 ?_;refine U456 ?_;refine U60 ?_;refine U408 ?_;refine U150 ?_;refine U76 ?_;refine U104 ?_;refine U51 ?_;refine U162 ?_;refine U421 ?_;refine U229 ?_;refine U60 ?_;refine U388 ?_;refine U408 ?_;refine U150 ?_;refine U76 ?_;refine U104 ?_;refine U51 ?_;refine U162 ?_;refine U386 ?_;refine U383 ?_;refine U51 ?_;refine U60 ?_;refine U148 ?_;refine U351 ?_;intro cs3 hb3;refine U70 ?_;refine U457 ?_;refine U70 ?_;refine U148 ?_;refine U354 ?_;refine U458 ?_;refine At.ret (Q0 _ gr 1) (fun _=>?_);refine U507 ?_;refine U558 ?_;refine U566 ?_;refine U197 ?_;refine U347 ?_;intro cs4 hb4;refine U197 ?_;refine U353 ?_;refine U470 ?_;refine At.done (Q0 _ gr 0) (fun _=>?_);refine U491 ?_;refine U198 ?_;refine U467 ?_;refine U559 ?_;refine U562 ?_;refine U198 ?_;refine U389 ?_;refine U560 ?_;refine At.skip (Q0 _ gr 0) ?_;refine U564 ?_;refine U418 ?_;refine U345 ?_;refine U486 ?_;refine At.inBlock (j0 _) ?_;refine U477 ?_;refine U394 ?_;refine U570 ?_;refine U235 ?_;refine U460 ?_;refine At.exit (j0 _) rfl ?_;refine At.done (j0 _) (fun _=>?_);refine AtR.mark (j0 _) .enable (by simp) rfl Tryz.func89 jg0 rfl rfl jh0 ?_;simp only[q6];refine U47 ?_;refine At.done (j0 _) (fun _=>?_);exact U46
set_option maxRecDepth 20000 in
theorem Ns0 (gr:I4) (K:Goroutine->Prop) {c:Frame} {cs:List Frame} (hK:K (Conc.G (c.finish (.tuple #[])) cs)):Cp0 Tryz.prog gr K 500 0 (Conc.G (Frame.enter Tryz.prog 66 #[.pointer (some ⟨gr.blk,gr.off,none⟩),.i 1] .normal) (c::cs)):=by
 rw[enter_at _ Tryz.func66 rfl];refine(?_:At (Ej0 Tryz.prog gr K) 500 117 (base 66) (c::cs) [] 0 (Wg.Q6 #[.pointer (some ⟨gr.blk,gr.off,none⟩),.i 1]) [.code (Tryz.f66.body.getD .skip)]) _ (C7 _ _ rfl);refine At.seq l3 ?_;refine At.J4 l3 rfl ?_;refine At.seq l3 ?_;refine U62 ?_;refine I0.val l3 (Z0 _) rfl (v:=.i 1) (J0 rfl) ?_;refine I0.val l3 (Z0 _) rfl (v:=.bool false) (ah0 (r:=false) rfl rfl (by decide)) ?_;refine U581 ?_;refine At.skip l3 ?_;refine U62 ?_;refine I0.ux0 l3 (Z0 _) .disable (by simp) (.inl rfl) rfl Tryz.func88 Qg0 rfl rfl Qh0 ?_;simp only[cy0];refine I0.nil l3 ?_;refine At.region l3 ?_;refine I0.defer l3 (Z0 _) [] rfl ?_;refine I0.nil l3 ?_;refine U62 ?_;refine I0.val l3 (Z0 _) rfl (v:=.bool false) (S0 rfl) ?_;refine I0.nil l3 ?_;refine At.seq l3 ?_;refine U62 ?_;refine I0.qa0 l3 (Z0 _) (.bool false) rfl Tryz.func90 Wn0 rfl rfl Xc0 ?_;refine U581 ?_;refine At.skip l3 ?_;refine U62 ?_;refine U376 ?_;refine I0.val l3 (Z0 _) rfl (v:=.pointer (some ⟨gr.blk,gr.off,none⟩)) (B3 (s:=1) gr.off gr.off rfl Tryz.underlying141 rfl lc0 (by decide) rfl) ?_;refine I0.val l3 (Z0 _) rfl (v:=.i 1) (J0 rfl) ?_;refine I0.val l3 (Z0 _) rfl (v:=.int .u64 1) (q3 (r:=1) rfl Tryz.underlying3 Tryz.underlying136 (by decide)) ?_;refine I0.val l3 (Z0 _) rfl (v:=.int .u64 4294967296) (Ef0 (r:=4294967296) rfl rfl (by decide) (by decide)) ?_;refine I0.call l3 (Z0 _) [.pointer (some ⟨gr.blk,gr.off,none⟩),.int .u64 4294967296] 10 rfl Tryz.func94 Wo0 rfl rfl rfl (fun cs1 V4=>?_);refine U62 ?_;refine I0.val l3 (Z0 _) rfl (v:=.int .u64 0) (S0 rfl) ?_;refine I0.nil l3 ?_;refine U62 ?_;refine U376 ?_;refine I0.val l3 (Z0 _) rfl (v:=.pointer (some ⟨gr.blk,gr.off,none⟩)) (B3 (s:=1) gr.off gr.off rfl Tryz.underlying138 rfl lb0 (by decide) rfl) ?_;refine I0.val l3 (Z0 _) rfl (v:=.int .u64 4294967296) (J0 rfl) ?_;refine I0.Cq0 (Z0 _) rfl Tryz.func109 Eu0 rfl rfl Ew0 rfl rfl (fun v hv=>?_);rcases Nat.eq_zero_or_pos v with rfl|hv0
 ·refine I0.val Y0 (Z0 _) rfl (v:=.int .u64 ((((0+1)*4294967296+0:Nat):Int))) (S0 rfl) ?_;refine I0.nil Y0 ?_;refine At.ret Y0 (fun _=>?_);refine AtR.leave1 Y0 V4 rfl Tryz.func94 rfl (.int .u64 ((((0+1)*4294967296+0:Nat):Int))) rfl ?_;refine I0.val Y0 (Z0 _) rfl (v:=.int .u64 ((((0+1)*4294967296+0:Nat):Int))) (S0 rfl) ?_;refine U115 ?_;refine I0.val Y0 (Z0 _) rfl (v:=.int .u64 ((((0+1)*4294967296+0:Nat):Int))) (J0 rfl) ?_;refine I0.val Y0 (Z0 _) rfl (v:=.int .u64 0) (H6 (r:=0) rfl rfl (kz0 (0+1) 0 (by omega) (by omega))) ?_;refine U231 ?_;refine U77 ?_;refine U81 ?_;refine U449 ?_;refine I0.val Y0 (Z0 _) rfl (v:=.int .u64 ((((0+1):Nat):Int))) (by0 (r:=(((0+1):Nat):Int)) rfl rfl (by decide) (la0 (0+1) 0 (by omega))) ?_;refine I0.val Y0 (Z0 _) rfl (v:=.int .i32 ((((0+1):Nat):Int))) (q3 (r:=(((0+1):Nat):Int)) rfl Tryz.underlying136 Tryz.underlying21 (bh0 (0+1) (by omega))) ?_;refine I0.val Y0 (Z0 _) rfl (v:=.int .i32 ((((0+1):Nat):Int))) (S0 rfl) ?_;refine I0.nil Y0 ?_;refine U449 ?_;refine I0.val Y0 (Z0 _) rfl (v:=.int .u64 0) (H6 (r:=0) rfl rfl (ep0 (0+1) 0 (by omega) (by omega))) ?_;refine U371 ?_;refine U115 ?_;refine U429 ?_;refine U536 ?_;refine I0.E8 Y0 (Z0 _) rfl rfl (v:=.int .i32 ((((0+1):Nat):Int))) (J0 rfl) ?_;refine U377 ?_;refine I0.E8 Y0 (Z0 _) rfl rfl (v:=.bool true) (j9 (r:=true) rfl rfl (decide_eq_true (by omega))) ?_;refine U298 ?_;refine At.region Y0 ?_;refine I0.val Y0 (Z0 _) rfl (v:=.pointer (some ⟨gr.blk,gr.off,none⟩)) (J0 rfl) ?_;refine I0.val Y0 (Z0 _) rfl (v:=.pointer (some ⟨gr.blk,gr.off,none⟩)) (I3 rfl) ?_;refine I0.val Y0 (Z0 _) rfl (v:=.pointer (some ⟨gr.blk,gr.off+1,none⟩)) (B3 (s:=1) gr.off (gr.off+1) rfl Tryz.underlying141 rfl Er0 (by decide) rfl) ?_;refine I0.toUnsafe Jv0 (Z0 _) rfl rfl (.inr rfl) Tryz.underlying172 Tryz.underlying128 Nr0 ?_;refine I0.sv0 Y0 (Z0 _) .read (by simp) (.inr (.inl rfl)) rfl Tryz.func95 by1 rfl rfl cb1 rfl ?_;rw[m8 _ rfl];refine U115 ?_;refine I0.val Y0 (Z0 _) rfl (v:=.int .i32 ((((0+1):Nat):Int))) (J0 rfl) ?_;refine U438 ?_;refine U107 ?_;refine U532 ?_;refine U77 ?_;refine U531 ?_;refine U77 ?_;refine U81 ?_;refine U107 ?_;refine I0.val Y0 (Z0 _) rfl (v:=.int .i32 ((((0+1):Nat):Int))) (J0 rfl) ?_;refine U391 ?_;refine U151 ?_;refine U298 ?_;refine At.ret Y0 (fun _=>?_);refine AtR.mark Y0 .enable (by simp) (.inl rfl) Tryz.func89 jg0 rfl rfl jh0 ?_;simp only[q6];exact U567
 ·refine I0.val Y0 (Z0 _) rfl (v:=.int .u64 ((((v+1)*4294967296+0:Nat):Int))) (S0 rfl) ?_;refine I0.nil Y0 ?_;refine At.ret Y0 (fun _=>?_);refine AtR.leave1 Y0 V4 rfl Tryz.func94 rfl (.int .u64 ((((v+1)*4294967296+0:Nat):Int))) rfl ?_;refine I0.val Y0 (Z0 _) rfl (v:=.int .u64 ((((v+1)*4294967296+0:Nat):Int))) (S0 rfl) ?_;refine U115 ?_;refine I0.val Y0 (Z0 _) rfl (v:=.int .u64 ((((v+1)*4294967296+0:Nat):Int))) (J0 rfl) ?_;refine I0.val Y0 (Z0 _) rfl (v:=.int .u64 0) (H6 (r:=0) rfl rfl (kz0 (v+1) 0 (by omega) (by omega))) ?_;refine U231 ?_;refine U77 ?_;refine U81 ?_;refine U448 ?_;refine I0.val Y0 (Z0 _) rfl (v:=.int .u64 ((((v+1):Nat):Int))) (by0 (r:=(((v+1):Nat):Int)) rfl rfl (by decide) (la0 (v+1) 0 (by omega))) ?_;refine I0.val Y0 (Z0 _) rfl (v:=.int .i32 ((((v+1):Nat):Int))) (q3 (r:=(((v+1):Nat):Int)) rfl Tryz.underlying136 Tryz.underlying21 (bh0 (v+1) (by omega))) ?_;refine I0.val Y0 (Z0 _) rfl (v:=.int .i32 ((((v+1):Nat):Int))) (S0 rfl) ?_;refine I0.nil Y0 ?_;refine U448 ?_;refine I0.val Y0 (Z0 _) rfl (v:=.int .u64 0) (H6 (r:=0) rfl rfl (ep0 (v+1) 0 (by omega) (by omega))) ?_;refine U371 ?_;refine U115 ?_;refine U429 ?_;refine U536 ?_;refine I0.E8 Y0 (Z0 _) rfl rfl (v:=.int .i32 ((((v+1):Nat):Int))) (J0 rfl) ?_;refine U377 ?_;refine I0.E8 Y0 (Z0 _) rfl rfl (v:=.bool false) (j9 (r:=false) rfl rfl (decide_eq_false (by omega))) ?_;refine I0.val Y0 (Z0 _) rfl (v:=.bool false) (R7 rfl rfl) ?_;refine U81 ?_;refine U484 ?_;refine U438 ?_;refine U107 ?_;refine U532 ?_;refine U77 ?_;refine U531 ?_;refine U77 ?_;refine U81 ?_;refine U484 ?_;refine U391 ?_;refine U151 ?_;refine U298 ?_;refine At.ret Y0 (fun _=>?_);refine AtR.mark Y0 .enable (by simp) (.inl rfl) Tryz.func89 jg0 rfl rfl jh0 ?_;simp only[q6];exact U567
noncomputable def zv0:Code:=match Tryz.f70.body with|some (.seq _ (.block _ (.loop c)))=>c|_=>.skip
set_option maxRecDepth 20000 in
theorem Bn0 (gr:I4) (K:Goroutine->Prop) {c:Frame} {cs:List Frame} (hK:K (Conc.G (c.finish (.tuple #[])) cs)):∀(V:Nat),V<2147483648->∀(e:Env),At (YWH Tryz.prog gr K none V) (500*V+500) 84 (base 70) (c::cs) [] 1 (upd e 0 (.pointer (some ⟨gr.blk,gr.off,none⟩))) [.code zv0,.inLoop zv0,.inBlock 0]:=by
 intro V
 induction V using Nat.strongRecOn with
 |_ V ih=>
 intro hV e;refine At.block B2 ?_;refine U13 ?_;refine U153 ?_;refine U522 ?_;intro cs1 V4;refine U505 ?_;refine U13 ?_;refine U152 ?_;refine I0.Eo0 (Z0 _) rfl Tryz.func110 vc0 rfl rfl vd0 rfl ?_ (fun v hv hv0=>?_)
 ·refine I0.val K2 (Z0 _) rfl (v:=.int .u64 0) (S0 rfl) ?_;refine I0.nil K2 ?_;refine At.ret K2 (fun _=>?_);refine AtR.leave1 K2 V4 rfl Tryz.func96 rfl (.int .u64 0) rfl ?_;refine U261 ?_;refine U543 ?_;refine I0.val K2 (Z0 _) rfl (v:=.int .u64 0) (by0 (r:=0) rfl rfl (by decide) (by decide)) ?_;refine I0.val K2 (Z0 _) rfl (v:=.int .i32 0) (q3 (r:=0) rfl Tryz.underlying136 Tryz.underlying21 (by decide)) ?_;refine I0.val K2 (Z0 _) rfl (v:=.int .i32 0) (S0 rfl) ?_;refine I0.nil K2 ?_;refine U543 ?_;refine I0.val K2 (Z0 _) rfl (v:=.int .u64 0) (H6 (r:=0) rfl rfl (by decide)) ?_;refine I0.val K2 (Z0 _) rfl (v:=.int .u32 0) (q3 (r:=0) rfl Tryz.underlying136 Tryz.underlying139 (by decide)) ?_;refine I0.val K2 (Z0 _) rfl (v:=.int .u32 0) (S0 rfl) ?_;refine U80 ?_;refine U40 ?_;refine I0.val K2 (Z0 _) rfl (v:=.int .i32 0) (J0 rfl) ?_;refine I0.val K2 (Z0 _) rfl (v:=.bool true) (j9 (r:=true) rfl rfl (by decide)) ?_;refine I0.nil K2 ?_;refine At.J4 K2 rfl ?_;refine At.seq K2 ?_;refine At.J4 K2 rfl ?_;refine U473 ?_;simp only[q6];refine I0.nil K2 ?_;refine U441 ?_;refine U368 ?_;rw[m8 _ rfl];refine U80 ?_;refine U40 ?_;refine U404 ?_;refine U422 ?_;refine U381 ?_;refine U420 ?_;refine I0.off K2 rfl rfl ?_;refine U482 ?_;refine U202 ?_;refine At.ret K2 (fun _=>?_);exact U189
 ·refine I0.val B2 (Z0 _) rfl (v:=.int .u64 (((v*4294967296+0:Nat):Int))) (S0 rfl) ?_;refine I0.nil B2 ?_;refine At.ret B2 (fun _=>?_);refine U372 ?_;refine I0.nil B2 ?_;refine U161 ?_;refine U342 ?_;refine U478 ?_;refine U161 ?_;refine U355 ?_;refine U497 ?_;refine At.seq B2 ?_;refine U13 ?_;refine U382 ?_;refine U288 ?_;refine U13 ?_;refine U153 ?_;refine U379 ?_;refine U339 ?_;intro cs2 hb2;refine U13 ?_;refine U498 ?_;refine U13 ?_;refine U152 ?_;refine U380 ?_;refine I0.Nb0 (vs:=v) (Z0 _) rfl Tryz.func112 Ni0 rfl rfl Nq0 rfl rfl rfl ?_ (fun v2 hv2=>?_)
  ·refine I0.val r4 (Z0 _) rfl (v:=.bool true) (S0 rfl) ?_;refine I0.nil r4 ?_;refine At.ret r4 (fun _=>?_);refine U527 ?_;refine U537 ?_;refine U523 ?_;refine U272 ?_;refine U220 ?_;refine U366 ?_;rw[m8 _ rfl];refine I0.nil r4 ?_;refine U255 ?_;refine U492 ?_;refine U289 ?_;refine U367 ?_;refine U398 ?_;refine U479 ?_;refine U582 ?_;refine At.skip r4 ?_;refine At.seq r4 ?_;refine U220 ?_;refine U423 ?_;refine I0.nil K2 ?_;refine U40 ?_;refine U378 ?_;refine I0.val K2 (Z0 _) rfl (v:=.pointer (some ⟨gr.blk,gr.off,none⟩)) (B3 (s:=1) gr.off gr.off rfl Tryz.underlying141 rfl lc0 (by decide) rfl) ?_;refine I0.call K2 (Z0 _) [.pointer (some ⟨gr.blk,gr.off,none⟩)] 7 rfl Tryz.func96 Ka0 rfl rfl rfl (fun cs3 hb3=>?_);refine U40 ?_;refine U261 ?_;refine U40 ?_;refine U378 ?_;refine I0.val K2 (Z0 _) rfl (v:=.pointer (some ⟨gr.blk,gr.off,none⟩)) (B3 (s:=1) gr.off gr.off rfl Tryz.underlying138 rfl lb0 (by decide) rfl) ?_;refine I0.Pu0 (Z0 _) rfl Tryz.func110 vc0 rfl rfl vd0 rfl ?_;refine U261 ?_;refine At.ret K2 (fun _=>?_);refine AtR.leave1 K2 hb3 rfl Tryz.func96 rfl (.int .u64 0) rfl ?_;refine I0.val K2 (Z0 _) rfl (v:=.bool false) (l7 (r:=false) rfl rfl (by decide)) ?_;refine I0.val K2 (Z0 _) rfl (v:=.bool false) (S0 rfl) ?_;refine U80 ?_;refine At.J4 K2 rfl ?_;refine U473 ?_;simp only[q6];refine I0.nil K2 ?_;refine U441 ?_;refine U368 ?_;rw[m8 _ rfl];refine U80 ?_;refine U533 ?_;refine U202 ?_;refine At.ret K2 (fun _=>?_);exact U189
  ·refine I0.val B2 (Z0 _) rfl (v:=.bool false) (S0 rfl) ?_;refine I0.nil B2 ?_;refine At.ret B2 (fun _=>?_);refine U526 ?_;refine U583 ?_;exact At.El0 (At.jt0 (fun e=>ih v2 (by omega) (by omega) e) rfl) (by omega)
set_option maxRecDepth 20000 in
theorem Ex0 (gr:I4) (K:Goroutine->Prop) {c:Frame} {cs:List Frame} (hK:K (Conc.G (c.finish (.tuple #[])) cs)) (V:Nat) (hV:V<2147483648):WH Tryz.prog gr (WE Tryz.prog gr K) (500*V+510) none V 0 (Conc.G (Frame.enter Tryz.prog 70 #[.pointer (some ⟨gr.blk,gr.off,none⟩)] .normal) (c::cs)):=by
 rw[enter_at _ Tryz.func70 rfl];refine(?_:At (YWH Tryz.prog gr K none V) (500*V+510) 84 (base 70) (c::cs) [] 0 (Wg.Q6 #[.pointer (some ⟨gr.blk,gr.off,none⟩)]) [.code (Tryz.f70.body.getD .skip)]) _ (C7 _ _ rfl);refine At.seq B2 ?_;refine At.J4 B2 rfl ?_;refine U443 ?_;simp only[cy0];refine I0.nil B2 ?_;refine At.block B2 ?_;refine At.loop B2 ?_;exact At.El0 (At.jt0 (fun e=>Bn0 gr K hK V hV e) rfl) (by omega)
end
end Go.Proofs.YtnifpkopeheodaaGreat
end
section
namespace Go.Vy.Sc
open Go Go.Conc Go.Yc Go.RowKit Go.Proofs Go.Proofs.YtnifpkopeheodaaGreat Try
open Go.Vc
structure CB where
 cb:Nat
 rc:Nat
 sp:Stp
 rf:Value
 df:Value
 W1:Nat
 wt:Bool
 st:Bool
def CB.cells (rb i:Nat) (c:CB):Array Value:=#[.i (i:Int),.p rb,.chan (some c.rc),.i c.sp.kind,.i c.sp.obj,.i c.sp.num,c.rf,c.df,.i (c.W1:Int),.bool c.wt,.bool c.st]
def evC (x:Nat×Stp):List Value:=[.i (x.1:Int),.i x.2.kind,.i x.2.obj,.i x.2.num]
def ntC (x:Nat×Nat×Nte):List Value:=[.i (x.1:Int),.i (x.2.1:Int),.i x.2.2.kind,.string x.2.2.text]
def spC (s:Stp):List Value:=[.i s.kind,.i s.obj,.i s.num]
structure Rn where
 rb:Nat
 yb:Nat
 eb:Nat
 wb:Nat
 m:Nat
 ca:Option Addr
 cc:Nat
 cl:List CB
 ea:Option Addr
 ec:Nat
 evs:List (Nat×Stp)
 na:Option Addr
 nc:Nat
 W2:List (Nat×Nat×Nte)
 ends:List Int
 W7:List Stp
 stuck:Bool
 used:Nat
def Rn.cells (R:Rn):Array Value:=#[.slice R.ca R.cl.length R.cc,.slice R.ea R.evs.length R.ec,.slice R.na R.W2.length R.nc,.slice (pt R.eb) R.m R.m,.slice (pt R.wb) R.m R.m,.bool R.stuck,.i (R.used:Int),.chan (some R.yb)]
structure H4 (w:World) (Bs:Nat) (R:Rn):Prop where
 run:O1 w R.rb R.cells 153 (7,8)
 cls:Own w Bs 91 1 R.ca R.cl.length R.cc (R.cl.map fun c=>.p c.cb)
 evs:Own w Bs 49 4 R.ea R.evs.length R.ec (R.evs.flatMap evC)
 W2:Own w Bs 98 4 R.na R.W2.length R.nc (R.W2.flatMap ntC)
 ends:O1 w R.eb (R.ends.map (Value.int .i64)).toArray 3 (0,0)
 W7:O1 w R.wb (R.W7.flatMap spC).toArray 47 (0,0)
 dy0:R.ends.length=R.m
 ji0:R.W7.length=R.m
 lcl:R.cl.length <=R.m
 blk:∀(i:Nat) (c:CB),R.cl[i]? =some c->O1 w c.cb (c.cells R.rb i) 149 (0,3)
def Rn.fp (R:Rn) (k:Nat):Prop:=k=R.rb\/k=R.eb\/k=R.wb\/(R.ca≠none/\k=ab R.ca)\/(R.ea≠none/\k=ab R.ea)\/(R.na≠none/\k=ab R.na)\/∃(i:Nat) (c:CB),R.cl[i]? =some c/\k=c.cb
section
variable {w w':World}{Bs:Nat}{R:Rn}
theorem H4.congr (h:H4 w Bs R) (he:∀k,R.fp k->w'.heap[k]? =w.heap[k]?):H4 w' Bs R :=
 ⟨(he _ (.inl rfl)).trans h.run,Own.congr h.cls fun ha=>he _ (.inr (.inr (.inr (.inl ⟨ha,rfl⟩)))),Own.congr h.evs fun ha=>he _ (.inr (.inr (.inr (.inr (.inl ⟨ha,rfl⟩))))),Own.congr h.W2 fun ha=>he _ (.inr (.inr (.inr (.inr (.inr (.inl ⟨ha,rfl⟩)))))),
  (he _ (.inr (.inl rfl))).trans h.ends,(he _ (.inr (.inr (.inl rfl)))).trans h.W7,h.dy0,h.ji0,h.lcl,fun i c hc=>(he _ (.inr (.inr (.inr (.inr (.inr (.inr ⟨i,c,hc,rfl⟩))))))).trans (h.blk i c hc)⟩
theorem H4.lt (h:H4 w Bs R) {k:Nat} (hk:R.fp k):k<w.heap.size:=by
 rcases hk with rfl|rfl|rfl|⟨ha,rfl⟩|⟨ha,rfl⟩|⟨ha,rfl⟩|⟨i,c,hc,rfl⟩
 ·exact h.run.lt
 ·exact h.ends.lt
 ·exact h.W7.lt
 ·exact h.cls.lt ha
 ·exact h.evs.lt ha
 ·exact h.W2.lt ha
 ·exact(h.blk i c hc).lt
theorem H4.E0 (h:H4 w Bs R) (hb:Below w.heap.size w w'):H4 w' Bs R:=h.congr fun k hk=>hb.block k (h.lt hk)
theorem J3 {b:Nat} {cs:Array Value} {T:TypeId} {f:Nat×Nat} {row:Option Nat} (h:O1 w b cs T f) (hg:w.grownBy w' row) (hr:∀r,row=some r->∃O5 T' f',O1 w r O5 T' f'/\T≠T'):O1 w' b cs T f :=
 h.grown hg fun e=>by
  obtain⟨O5,T',f',h',hT⟩:=hr b e.symm;exact h.ne h' hT rfl
theorem O4 {E:TypeId} {s n c:Nat} {a:Option Addr} {xs:List Value} {row:Option Nat} (h:Own w Bs E s a n c xs) (hg:w.grownBy w' row) (hr:∀r,row=some r->∃O5 T' f',O1 w r O5 T' f'/\E≠T'):Own w' Bs E s a n c xs :=
 Own.congr h fun ha=>by
  obtain⟨cur,hB,_⟩:=h.row ha;refine hg.block _ hB.lt fun e=>?_;obtain⟨O5,T',f',h',hT⟩:=hr (ab a) e.symm;exact O1.ne (f:=(0,0)) hB h' hT rfl
theorem H4.cd1 (h:H4 w Bs R) {i j:Nat} {c d:CB} (hc:R.cl[i]? =some c) (hd:R.cl[j]? =some d) (he:c.cb=d.cb):i=j:=by
 have h1:=h.blk i c hc;have h2:=h.blk j d hd;unfold O1 at h1 h2;rw[he,h2]at h1;have:=congrArg (fun o=>match o with|some (Obj.cells c _ _)=>c[0]? |_=>none) h1;simp[CB.cells]at this;omega
theorem Ey0 (l:List CB) (i:Nat) (c c':CB) (hc:l[i]? =some c) (he:c'.cb=c.cb):(l.set i c').map (fun c=>Value.p c.cb)=l.map fun c=>Value.p c.cb:=by
 apply List.ext_getElem?;intro j;rw[List.getElem?_map,List.getElem?_map,List.getElem?_set];by_cases hj:i=j
 ·subst hj;have T2:=(List.getElem?_eq_some_iff.1 hc).1;rw[List.getElem?_eq_getElem T2]at hc;obtain rfl:=Option.some.inj hc;simp[T2,he]
 ·simp[hj]
theorem Rn.zw0 {i:Nat} {c c':CB} (hc:R.cl[i]? =some c) (he:c'.cb=c.cb) {k:Nat} (hk:Rn.fp {R with cl:=R.cl.set i c'} k):R.fp k:=by
 rcases hk with h|h|h|h|h|h|⟨j,d,hd,rfl⟩
 ·exact .inl h
 ·exact .inr (.inl h)
 ·exact .inr (.inr (.inl h))
 ·exact .inr (.inr (.inr (.inl h)))
 ·exact .inr (.inr (.inr (.inr (.inl h))))
 ·exact .inr (.inr (.inr (.inr (.inr (.inl h)))))
 ·refine .inr (.inr (.inr (.inr (.inr (.inr ?_)))));have J5:(R.cl.set i c')[j]? =some d:=hd;rw[List.getElem?_set]at J5;by_cases hj:i=j
  ·subst hj;rw[if_pos rfl]at J5;split at J5
   ·obtain rfl:=Option.some.inj J5;exact⟨i,c,hc,he⟩
   ·cases J5
  ·rw[if_neg hj]at J5;exact⟨j,d,J5,rfl⟩
theorem H4.Qi0 (h:H4 w Bs R) {i:Nat} {c:CB} (c':CB) (hc:R.cl[i]? =some c) (he:c'.cb=c.cb):H4 (P1 w c.cb (c'.cells R.rb i) 149 (0,3)) Bs {R with cl:=R.cl.set i c'}:=by
 have hg:=o2 w c.cb (c'.cells R.rb i) 149 (0,3);have hb:=h.blk i c hc;have hr:∀T:TypeId,T≠149->∀r,some c.cb=some r->∃O5 T' f',O1 w r O5 T' f'/\T≠T':=fun T hT r e=>by cases e;exact⟨_,_,_,hb,hT⟩
 refine⟨?_,?_,O4 h.evs hg (hr _ (by decide)),O4 h.W2 hg (hr _ (by decide)),J3 h.ends hg (hr _ (by decide)),J3 h.W7 hg (hr _ (by decide)),h.dy0,h.ji0,by simpa using h.lcl,fun j d hd=>?_⟩
 ·have:=J3 h.run hg (hr _ (by decide));simpa [Rn.cells]using this
 ·have:=O4 h.cls hg (hr _ (by decide));show Own _ Bs _ 1 R.ca (R.cl.set i c').length R.cc ((R.cl.set i c').map _);rw[Ey0 R.cl i c c' hc he,List.length_set];exact this
 ·have J5:(R.cl.set i c')[j]? =some d:=hd;rw[List.getElem?_set]at J5;by_cases hj:i=j
  ·subst hj;rw[if_pos rfl]at J5;split at J5
   ·obtain rfl:=Option.some.inj J5;rw[he];exact T4 hb _ _ _
   ·cases J5
  ·rw[if_neg hj]at J5;exact(h.blk j d J5).other hg fun e=>hj (h.cd1 J5 hc e).symm
theorem H4.Qj0 (h:H4 w Bs R) (st:Bool) (us:Nat):H4 (P1 w R.rb (Rn.cells {R with stuck:=st,used:=us}) 153 (7,8)) Bs {R with stuck:=st,used:=us}:=by
 have hg:=o2 w R.rb (Rn.cells {R with stuck:=st,used:=us}) 153 (7,8);have hr:∀T:TypeId,T≠153->∀r,some R.rb=some r->∃O5 T' f',O1 w r O5 T' f'/\T≠T':=fun T hT r e=>by cases e;exact⟨_,_,_,h.run,hT⟩
 exact⟨T4 h.run _ _ _,O4 h.cls hg (hr _ (by decide)),O4 h.evs hg (hr _ (by decide)),O4 h.W2 hg (hr _ (by decide)),J3 h.ends hg (hr _ (by decide)),J3 h.W7 hg (hr _ (by decide)),h.dy0,h.ji0,h.lcl,fun j d hd=>J3 (h.blk j d hd) hg (hr _ (by decide))⟩
theorem Kc0 {E:TypeId} {s n c:Nat} {a:Option Addr} {xs:List Value} (h:Own w Bs E s a n c xs):∀r,Value.ownBlock (.slice a n c)=some r->∃O5 T' f',O1 w r O5 T' f':=by
 intro r e;cases a with
 |none=>cases e
 |some ad=>
  obtain⟨cur,hB,_⟩:=h.row (by simp);cases e;exact⟨_,_,_,hB⟩
theorem I6 {E T:TypeId} {s n c:Nat} {a:Option Addr} {xs:List Value} (h:Own w Bs E s a n c xs) (hT:T≠E):∀r,Value.ownBlock (.slice a n c)=some r->∃O5 T' f',O1 w r O5 T' f'/\T≠T':=by
 intro r e;cases a with
 |none=>cases e
 |some ad=>
  obtain⟨cur,hB,_⟩:=h.row (by simp);cases e;exact⟨_,_,_,hB,hT⟩
theorem H4.Ez0 (h:H4 w Bs R) {w1:World} {a':Option Addr} {c':Nat} (x:Nat×Stp) (hg:w.grownBy w1 (Value.ownBlock (.slice R.ea R.evs.length R.ec))) (hO:Own w1 Bs 49 4 a' (R.evs.length+1) c' (R.evs.flatMap evC++evC x)) :
  H4 (P1 w1 R.rb (Rn.cells {R with ea:=a',ec:=c',evs:=R.evs ++ [x]}) 153 (7,8)) Bs {R with ea:=a',ec:=c',evs:=R.evs ++ [x]}:=by
 have g4:=J3 h.run hg (I6 h.evs (by decide));have hg2:=o2 w1 R.rb (Rn.cells {R with ea:=a',ec:=c',evs:=R.evs ++ [x]}) 153 (7,8);have hr:∀T:TypeId,T≠153->∀r,some R.rb=some r->∃O5 T' f',O1 w1 r O5 T' f'/\T≠T':=fun T hT r e=>by cases e;exact⟨_,_,_,g4,hT⟩
 refine⟨T4 g4 _ _ _,O4 (O4 h.cls hg (I6 h.evs (by decide))) hg2 (hr _ (by decide)),?_,O4 (O4 h.W2 hg (I6 h.evs (by decide))) hg2 (hr _ (by decide)),J3 (J3 h.ends hg (I6 h.evs (by decide))) hg2 (hr _ (by decide)),J3 (J3 h.W7 hg (I6 h.evs (by decide))) hg2 (hr _ (by decide)),h.dy0,h.ji0,h.lcl,fun j d hd=>J3 (J3 (h.blk j d hd) hg (I6 h.evs (by decide))) hg2 (hr _ (by decide))⟩;have:=O4 hO hg2 (hr _ (by decide));simpa using this
theorem H4.Fa0 (h:H4 w Bs R) {w1:World} {a':Option Addr} {c':Nat} (x:CB) (hx:O1 w x.cb (x.cells R.rb R.cl.length) 149 (0,3)) (hm:R.cl.length<R.m) (hg:w.grownBy w1 (Value.ownBlock (.slice R.ca R.cl.length R.cc))) (hO:Own w1 Bs 91 1 a' (R.cl.length+1) c' ((R.cl.map fun c=>.p c.cb) ++ [.p x.cb])) :
  H4 (P1 w1 R.rb (Rn.cells {R with ca:=a',cc:=c',cl:=R.cl ++ [x]}) 153 (7,8)) Bs {R with ca:=a',cc:=c',cl:=R.cl ++ [x]}:=by
 have g4:=J3 h.run hg (I6 h.cls (by decide));have hg2:=o2 w1 R.rb (Rn.cells {R with ca:=a',cc:=c',cl:=R.cl ++ [x]}) 153 (7,8);have hr:∀T:TypeId,T≠153->∀r,some R.rb=some r->∃O5 T' f',O1 w1 r O5 T' f'/\T≠T':=fun T hT r e=>by cases e;exact⟨_,_,_,g4,hT⟩
 refine⟨T4 g4 _ _ _,?_,O4 (O4 h.evs hg (I6 h.cls (by decide))) hg2 (hr _ (by decide)),O4 (O4 h.W2 hg (I6 h.cls (by decide))) hg2 (hr _ (by decide)),J3 (J3 h.ends hg (I6 h.cls (by decide))) hg2 (hr _ (by decide)),J3 (J3 h.W7 hg (I6 h.cls (by decide))) hg2 (hr _ (by decide)),h.dy0,h.ji0,by simp;omega,fun j d hd=>?_⟩
 ·have:=O4 hO hg2 (hr _ (by decide));simpa using this
 ·have J5:(R.cl ++ [x])[j]? =some d:=hd;have hb:O1 w d.cb (d.cells R.rb j) 149 (0,3):=by
   rw[List.getElem?_append]at J5;split at J5
   ·exact h.blk j d J5
   ·rename_i T2;have hj:j=R.cl.length:=by
     rcases Nat.lt_or_ge (j-R.cl.length) 1 with z|z
     ·omega
     ·rw[List.getElem?_eq_none (by simpa using z)]at J5;cases J5
    subst hj;simp at J5;subst J5;exact hx
  exact J3 (J3 hb hg (I6 h.cls (by decide))) hg2 (hr _ (by decide))
theorem H4.Qk0 (h:H4 w Bs R) (i:Nat) (v:Int):H4 (P1 w R.eb ((R.ends.set i v).map (Value.int .i64)).toArray 3 (0,0)) Bs {R with ends:=R.ends.set i v}:=by
 have hg:=o2 w R.eb ((R.ends.set i v).map (Value.int .i64)).toArray 3 (0,0);have hr:∀T:TypeId,T≠3->∀r,some R.eb=some r->∃O5 T' f',O1 w r O5 T' f'/\T≠T':=fun T hT r e=>by cases e;exact⟨_,_,_,h.ends,hT⟩
 exact⟨J3 h.run hg (hr _ (by decide)),O4 h.cls hg (hr _ (by decide)),O4 h.evs hg (hr _ (by decide)),O4 h.W2 hg (hr _ (by decide)),T4 h.ends _ _ _,J3 h.W7 hg (hr _ (by decide)),by simpa using h.dy0,h.ji0,h.lcl,fun j d hd=>J3 (h.blk j d hd) hg (hr _ (by decide))⟩
theorem H4.Ql0 (h:H4 w Bs R) (i:Nat) (v:Stp):H4 (P1 w R.wb ((R.W7.set i v).flatMap spC).toArray 47 (0,0)) Bs {R with W7:=R.W7.set i v}:=by
 have hg:=o2 w R.wb ((R.W7.set i v).flatMap spC).toArray 47 (0,0);have hr:∀T:TypeId,T≠47->∀r,some R.wb=some r->∃O5 T' f',O1 w r O5 T' f'/\T≠T':=fun T hT r e=>by cases e;exact⟨_,_,_,h.W7,hT⟩
 exact⟨J3 h.run hg (hr _ (by decide)),O4 h.cls hg (hr _ (by decide)),O4 h.evs hg (hr _ (by decide)),O4 h.W2 hg (hr _ (by decide)),J3 h.ends hg (hr _ (by decide)),T4 h.W7 _ _ _,h.dy0,by simpa using h.ji0,h.lcl,fun j d hd=>J3 (h.blk j d hd) hg (hr _ (by decide))⟩
structure Rg (S:Nat->Prop) (B:Nat) (w0 w:World) (Bs:Nat) (R:Rn):Prop where
 m:H4 w Bs R
 md:er0 S B w0 w
 fp:∀k,R.fp k->S k\/B <=k
 le:B <=w.heap.size
end
section
variable {S:Nat->Prop}{B:Nat}{w0 w w':World}{Bs:Nat}{R:Rn}
theorem H4.rg (h:H4 w Bs R):Rg R.fp w.heap.size w w Bs R:=⟨h,er0.refl _ _ _,fun _ h=>.inl h,Nat.le_refl _⟩
theorem Rg.E0 (h:Rg S B w0 w Bs R) (hb:Below w.heap.size w w'):Rg S B w0 w' Bs R:=⟨h.m.E0 hb,h.md.below hb h.le,h.fp,Nat.le_trans h.le hb.size⟩
theorem Rg.fresh (h:Rg S B w0 w Bs R) {b:Nat} (cs:Array Value) (T:TypeId) (f:Nat×Nat) (hb:∀k,R.fp k->k≠b) (hB:B <=b):Rg S B w0 (P1 w b cs T f) Bs R :=
 ⟨h.m.congr fun k hk=>Y6 (hb k hk),h.md.grown (o2 w b cs T f) h.le (fun r e=>by cases e;exact .inr hB),h.fp,by rw[w5];exact h.le⟩
theorem Rg.put (h:Rg S B w0 w Bs R) {b:Nat} {cs:Array Value} {T:TypeId} {f:Nat×Nat} {R':Rn} (hb:R.fp b) (hm:H4 (P1 w b cs T f) Bs R') (hf:∀k,R'.fp k->R.fp k):Rg S B w0 (P1 w b cs T f) Bs R' :=
 ⟨hm,h.md.grown (o2 w b cs T f) h.le (fun r e=>by cases e;exact h.fp _ hb),fun k hk=>h.fp k (hf k hk),by rw[w5];exact h.le⟩
theorem Xf0 {i:Nat} {c:CB} (hc:R.cl[i]? =some c):R.fp c.cb:=.inr (.inr (.inr (.inr (.inr (.inr ⟨i,c,hc,rfl⟩)))))
theorem Rg.Qi0 (h:Rg S B w0 w Bs R) {i:Nat} {c:CB} (c':CB) (hc:R.cl[i]? =some c) (he:c'.cb=c.cb):Rg S B w0 (P1 w c.cb (c'.cells R.rb i) 149 (0,3)) Bs {R with cl:=R.cl.set i c'} :=
 h.put (Xf0 hc) (h.m.Qi0 c' hc he) fun _ hk=>Rn.zw0 hc he hk
theorem Rg.Qj0 (h:Rg S B w0 w Bs R) (st:Bool) (us:Nat):Rg S B w0 (P1 w R.rb (Rn.cells {R with stuck:=st,used:=us}) 153 (7,8)) Bs {R with stuck:=st,used:=us} :=
 h.put (.inl rfl) (h.m.Qj0 st us) fun _ hk=>hk
theorem Rg.Qk0 (h:Rg S B w0 w Bs R) (i:Nat) (v:Int):Rg S B w0 (P1 w R.eb ((R.ends.set i v).map (Value.int .i64)).toArray 3 (0,0)) Bs {R with ends:=R.ends.set i v} :=
 h.put (.inr (.inl rfl)) (h.m.Qk0 i v) fun _ hk=>hk
theorem Rg.Ql0 (h:Rg S B w0 w Bs R) (i:Nat) (v:Stp):Rg S B w0 (P1 w R.wb ((R.W7.set i v).flatMap spC).toArray 47 (0,0)) Bs {R with W7:=R.W7.set i v} :=
 h.put (.inr (.inr (.inl rfl))) (h.m.Ql0 i v) fun _ hk=>hk
def Kd0 (w:World) (a a':Option Addr):Prop:=a'≠none->(a≠none/\ab a'=ab a)\/w.heap.size <=ab a'
theorem zx0 {a:Option Addr} {n c r:Nat} (e:Value.ownBlock (.slice a n c)=some r):a≠none/\r=ab a:=by
 cases a with
 |none=>cases e
 |some ad=>exact⟨by simp,by cases e;rfl⟩
theorem Rg.app (h:Rg S B w0 w Bs R) {R':Rn} {row:Option Nat} {w1:World} (hg:w.grownBy w1 row) (hr:∀r,row=some r->R.fp r) (hb:R'.rb=R.rb) (hm:H4 (P1 w1 R.rb R'.cells 153 (7,8)) Bs R') (hf:∀k,R'.fp k->R.fp k\/w.heap.size <=k) :
  Rg S B w0 (P1 w1 R.rb R'.cells 153 (7,8)) Bs R' :=
 ⟨hm,(h.md.grown hg h.le fun r e=>h.fp r (hr r e)).grown (o2 _ _ _ _ _) (Nat.le_trans h.le hg.size) (fun r e=>by cases e;exact h.fp _ (.inl rfl)),fun k hk=>by
  rcases hf k hk with z|z
  ·exact h.fp k z
  ·have:=h.le;exact .inr (by omega),by rw[w5];exact Nat.le_trans h.le hg.size⟩
theorem Rg.Ez0 (h:Rg S B w0 w Bs R) {w1:World} {a':Option Addr} {c':Nat} (x:Nat×Stp) (hg:w.grownBy w1 (Value.ownBlock (.slice R.ea R.evs.length R.ec))) (hO:Own w1 Bs 49 4 a' (R.evs.length+1) c' (R.evs.flatMap evC++evC x)) (hl:Kd0 w R.ea a') :
  Rg S B w0 (P1 w1 R.rb (Rn.cells {R with ea:=a',ec:=c',evs:=R.evs ++ [x]}) 153 (7,8)) Bs {R with ea:=a',ec:=c',evs:=R.evs ++ [x]} :=
 h.app (R':={R with ea:=a',ec:=c',evs:=R.evs ++ [x]}) hg (fun r e=>by obtain⟨h1,rfl⟩:=zx0 e;exact .inr (.inr (.inr (.inr (.inl ⟨h1,rfl⟩))))) rfl (h.m.Ez0 x hg hO) fun k hk=>by
  rcases hk with z|z|z|z|⟨z1,z2⟩|z|z
  ·exact .inl (.inl z)
  ·exact .inl (.inr (.inl z))
  ·exact .inl (.inr (.inr (.inl z)))
  ·exact .inl (.inr (.inr (.inr (.inl z))))
  ·rcases hl z1 with⟨y1,y2⟩|y
   ·exact .inl (.inr (.inr (.inr (.inr (.inl ⟨y1,by rw[z2];exact y2⟩)))))
   ·exact .inr (by rw[z2];exact y)
  ·exact .inl (.inr (.inr (.inr (.inr (.inr (.inl z))))))
  ·exact .inl (.inr (.inr (.inr (.inr (.inr (.inr z))))))
theorem Rg.Fa0 (h:Rg S B w0 w Bs R) {w1:World} {a':Option Addr} {c':Nat} (x:CB) (hx:O1 w x.cb (x.cells R.rb R.cl.length) 149 (0,3)) (hxS:S x.cb\/B <=x.cb) (hm:R.cl.length<R.m) (hg:w.grownBy w1 (Value.ownBlock (.slice R.ca R.cl.length R.cc)))
  (hO:Own w1 Bs 91 1 a' (R.cl.length+1) c' ((R.cl.map fun c=>.p c.cb) ++ [.p x.cb])) (hl:Kd0 w R.ca a') :
  Rg S B w0 (P1 w1 R.rb (Rn.cells {R with ca:=a',cc:=c',cl:=R.cl ++ [x]}) 153 (7,8)) Bs {R with ca:=a',cc:=c',cl:=R.cl ++ [x]}:=by
 have h1:=h.m.Fa0 x hx hm hg hO;refine⟨h1,(h.md.grown hg h.le fun r e=>h.fp r (by obtain⟨h1,rfl⟩:=zx0 e;exact .inr (.inr (.inr (.inl ⟨h1,rfl⟩))))).grown (o2 _ _ _ _ _) (Nat.le_trans h.le hg.size) (fun r e=>by cases e;exact h.fp _ (.inl rfl)),fun k hk=>?_,by rw[w5];exact Nat.le_trans h.le hg.size⟩;rcases hk with z|z|z|⟨z1,z2⟩|z|z|⟨i,d,hd,z⟩
 ·exact h.fp _ (.inl z)
 ·exact h.fp _ (.inr (.inl z))
 ·exact h.fp _ (.inr (.inr (.inl z)))
 ·rcases hl z1 with⟨y1,y2⟩|y
  ·exact h.fp _ (.inr (.inr (.inr (.inl ⟨y1,by rw[z2];exact y2⟩))))
  ·have:=h.le;exact .inr (by rw[z2];show B <=ab a';omega)
 ·exact h.fp _ (.inr (.inr (.inr (.inr (.inl z)))))
 ·exact h.fp _ (.inr (.inr (.inr (.inr (.inr (.inl z))))))
 ·have J5:(R.cl ++ [x])[i]? =some d:=hd;rw[List.getElem?_append]at J5;split at J5
  ·exact h.fp _ (.inr (.inr (.inr (.inr (.inr (.inr ⟨i,d,J5,z⟩))))))
  ·have hdx:d=x:=by
    have:=List.mem_of_getElem? J5;simpa using this
   subst hdx;rw[z];exact hxS
end
section
variable {w:World}{Bs:Nat}{R:Rn}
theorem Fb0 (hM:H4 w Bs R) {i:Nat} {c:CB} (hc:R.cl[i]? =some c):w.cell? ⟨ab R.ca,ao R.ca+i*1,none⟩=some (.p c.cb):=by
 rw[hM.cls.off,Nat.zero_add,Nat.mul_one];exact hM.cls.cell (by rw[List.getElem?_map,hc];rfl)
def rdl (cl:List CB) (r:Nat->Bool) (n:Nat):List Nat:=(List.range n).filter fun i=>(cl[i]?.any (·.wt))&&r i
def Fc0 (cl:List CB) (i:Nat):Value:=.pointer (some ⟨(cl[i]?.map (·.cb)).getD 0,0,none⟩)
theorem Fd0 {cl:List CB} {r:Nat->Bool} {i:Nat} {c:CB} (hc:cl[i]? =some c) (h:(c.wt&&r i)=false):rdl cl r (i+1)=rdl cl r i:=by
 unfold rdl;rw[List.range_succ,List.filter_append];simp[hc,h]
theorem zy0 {cl:List CB} {r:Nat->Bool} {i:Nat} {c:CB} (hc:cl[i]? =some c) (h:(c.wt&&r i)=true):rdl cl r (i+1)=rdl cl r i ++ [i]:=by
 unfold rdl;rw[List.range_succ,List.filter_append];simp only[Bool.and_eq_true]at h;simp[hc,h.1,h.2]
theorem xf0 {cl:List CB} {r:Nat->Bool} (n:Nat):(rdl cl r n).length <=n:=by
 have:=List.length_filter_le (fun i=>(cl[i]?.any (·.wt))&&r i) (List.range n);simpa [rdl]using this
theorem Xg0 {cl:List CB} {i:Nat} (h:∀(j:Nat) (c:CB),j<i->cl[j]? =some c->c.wt=false) (hi:cl.length <=i):cl.any (·.wt)=false:=by
 rw[List.any_eq_false];intro c hc;obtain⟨j,hj⟩:=List.mem_iff_getElem?.1 hc;have:=h j c (by have:=(List.getElem?_eq_some_iff.1 hj).1;omega) hj;simp[this]
def tc0 [Ctx Tryz.prog] (w0:World) (rf:Value) (b:Bool):Prop :=
 (rf= .nilFunc/\b=true)\/∃f fn caps,rf= .func (.func f) #[] caps/\Tryz.prog.funcs[f]? =some fn/\fn.body.isSome=true/\(fn.name== "runtime.NumGoroutine")=false/\∀u,Below w0.heap.size w0 u->C Tryz.prog f caps u fun v u'=>v= .bool b/\Below u.heap.size u u'
end
section
variable [Ctx Tryz.prog]{n:Nat}{Q:Exit->Env->World->Prop}{e:Env}{ops:Array Oper}{rest:List Oper}{ty:TypeId}{ps:String}{af:Array Edge}{T:TypeId}{x y:Operand}
variable {S:Nat->Prop}{B:Nat}{w0 w:World}{Bs:Nat}{R:Rn}
theorem L.stC {i:Nat} {c:CB} {o s:Nat} {v:Value} {vs:List Value} (hg:Rg S B w0 w Bs R) (c':CB) (hc:R.cl[i]? =some c) (he:c'.cb=c.cb) (hx:ev e x= .pointer (some ⟨c.cb,o,none⟩)) (hy:ev e y=v) (hvs:v.cells.toList=vs) (hs:(Tryz.prog.info? T).map (·.size)=some s) (hl:vs.length=s) (h1:vs.all Value.oneCell'=true) (ho:3 <=o/\o+s <=11) (hcs:setRow (c.cells R.rb i) o vs=c'.cells R.rb i)
  (k:∀w1,Rg S B w0 w1 Bs {R with cl:=R.cl.set i c'}->w.grownBy w1 (some c.cb)->L Tryz.prog n ops Q rest e w1):L Tryz.prog n ops Q (⟨none,.store T x y,ty,ps,af,none⟩::rest) e w :=
 L.Bm0 (c'.cells R.rb i) hx hy hvs hs hl h1 (hg.m.blk i c hc) ho.2 (.inr ho.1) hcs (k _ (hg.Qi0 c' hc he) (o2 _ _ _ _ _))
theorem L.stR {o s:Nat} {v:Value} {vs:List Value} (hg:Rg S B w0 w Bs R) (st:Bool) (us:Nat) (hx:ev e x= .pointer (some ⟨R.rb,o,none⟩)) (hy:ev e y=v) (hvs:v.cells.toList=vs) (hs:(Tryz.prog.info? T).map (·.size)=some s) (hl:vs.length=s) (h1:vs.all Value.oneCell'=true) (ho:o+s <=7) (hcs:setRow R.cells o vs=Rn.cells {R with stuck:=st,used:=us})
  (k:∀w1,Rg S B w0 w1 Bs {R with stuck:=st,used:=us}->w.grownBy w1 (some R.rb)->L Tryz.prog n ops Q rest e w1):L Tryz.prog n ops Q (⟨none,.store T x y,ty,ps,af,none⟩::rest) e w :=
 L.Bm0 (Rn.cells {R with stuck:=st,used:=us}) hx hy hvs hs hl h1 hg.m.run (show o+s <=8 by omega) (.inl (show o+s <=7 by omega)) hcs (k _ (hg.Qj0 st us) (o2 _ _ _ _ _))
theorem L.ce1 {o:Nat} {v:Value} {w1:World} {a':Option Addr} {c':Nat} (hg:Rg S B w0 w Bs R) (x':Nat×Stp) (o3:w.grownBy w1 (Value.ownBlock (.slice R.ea R.evs.length R.ec))) (hO:Own w1 Bs 49 4 a' (R.evs.length+1) c' (R.evs.flatMap evC++evC x')) (hli:Kd0 w R.ea a')
  (hx:ev e x= .pointer (some ⟨R.rb,1,none⟩)) (hy:ev e y= .slice a' (R.evs.length+1) c') (hs:(Tryz.prog.info? T).map (·.size)=some 1)
  (k:∀w2,Rg S B w0 w2 Bs {R with ea:=a',ec:=c',evs:=R.evs ++ [x']}->L Tryz.prog n ops Q rest e w2):L Tryz.prog n ops Q (⟨none,.store T x y,ty,ps,af,none⟩::rest) e w1 :=
 L.Bm0 (Rn.cells {R with ea:=a',ec:=c',evs:=R.evs ++ [x']}) hx hy rfl hs rfl rfl (J3 hg.m.run o3 (I6 hg.m.evs (by decide))) (show 1+1 <=8 by omega) (.inl (show 1+1 <=7 by omega)) (by simp[Rn.cells,setRow,Value.cells]) (k _ (hg.Ez0 x' o3 hO hli))
theorem L.cg1 {w1:World} {a':Option Addr} {c':Nat} (hg:Rg S B w0 w Bs R) (x':CB) (hx0:O1 w x'.cb (x'.cells R.rb R.cl.length) 149 (0,3)) (hxS:S x'.cb\/B <=x'.cb) (hm:R.cl.length<R.m) (o3:w.grownBy w1 (Value.ownBlock (.slice R.ca R.cl.length R.cc)))
  (hO:Own w1 Bs 91 1 a' (R.cl.length+1) c' ((R.cl.map fun c=>.p c.cb) ++ [.p x'.cb])) (hli:Kd0 w R.ca a')
  (hx:ev e x= .p R.rb) (hy:ev e y= .slice a' (R.cl.length+1) c') (hs:(Tryz.prog.info? T).map (·.size)=some 1)
  (k:∀w2,Rg S B w0 w2 Bs {R with ca:=a',cc:=c',cl:=R.cl ++ [x']}->w1.grownBy w2 (some R.rb)->L Tryz.prog n ops Q rest e w2):L Tryz.prog n ops Q (⟨none,.store T x y,ty,ps,af,none⟩::rest) e w1 :=
 L.Bm0 (Rn.cells {R with ca:=a',cc:=c',cl:=R.cl ++ [x']}) hx hy rfl hs rfl rfl (J3 hg.m.run o3 (I6 hg.m.cls (by decide))) (show 0+1 <=8 by omega) (.inl (show 0+1 <=7 by omega)) (by simp[Rn.cells,setRow,Value.cells]) (k _ (hg.Fa0 x' hx0 hxS hm o3 hO hli) (o2 _ _ _ _ _))
end
section
theorem Bo0 (l:List Stp) (i:Nat) (s:Stp) (hi:i<l.length):setRow (l.flatMap spC).toArray (i*3) (spC s)=((l.set i s).flatMap spC).toArray:=by
 apply Array.toList_inj.1;have key:∀(l:List Stp) (i:Nat),i<l.length->(l.set i s).flatMap spC=(((l.flatMap spC).set (i*3) (.i s.kind)).set (i*3+1) (.i s.obj)).set (i*3+2) (.i s.num):=by
  intro l
  induction l with
  |nil=>intro i hi;simp at hi
  |cons a l ih=>
   intro i hi;cases i with
   |zero=>simp[spC,List.flatMap_cons]
   |succ i=>
    have:=ih i (by simpa using hi);simp only[List.set_cons_succ,List.flatMap_cons,spC,List.cons_append,List.nil_append];rw[show(i+1)*3=i*3+1+1+1 by omega];simp only[List.set_cons_succ];rw[this]
 rw[key l i hi];simp[setRow,spC]
end
section
variable [Ctx Tryz.prog]{n:Nat}{Q:Exit->Env->World->Prop}{e:Env}{ops:Array Oper}{rest:List Oper}{ty:TypeId}{ps:String}{af:Array Edge}{T:TypeId}{x y:Operand}
variable {S:Nat->Prop}{B:Nat}{w0 w:World}{Bs:Nat}{R:Rn}
theorem L.stE {i:Nat} {z:Int} (hg:Rg S B w0 w Bs R) (hi:i<R.m) (hx:ev e x= .pointer (some ⟨R.eb,0+i*1,none⟩)) (hy:ev e y= .i z) (hs:(Tryz.prog.info? T).map (·.size)=some 1)
  (k:∀w1,Rg S B w0 w1 Bs {R with ends:=R.ends.set i z}->w.grownBy w1 (some R.eb)->L Tryz.prog n ops Q rest e w1):L Tryz.prog n ops Q (⟨none,.store T x y,ty,ps,af,none⟩::rest) e w:=by
 refine L.Bm0 _ hx hy rfl hs rfl rfl hg.m.ends (by rw[Nat.zero_add,Nat.mul_one];simp[hg.m.dy0];omega) (.inr (by simp)) ?_ (k _ (hg.Qk0 i z) (o2 _ _ _ _ _));rw[Nat.zero_add,Nat.mul_one];apply Array.toList_inj.1;simp[setRow,Value.cells,List.map_set]
theorem L.stW {i:Nat} {z:Stp} (hg:Rg S B w0 w Bs R) (hi:i<R.m) (hx:ev e x= .pointer (some ⟨R.wb,0+i*3,none⟩)) (hy:ev e y=io0 z) (hs:(Tryz.prog.info? T).map (·.size)=some 3)
  (k:∀w1,Rg S B w0 w1 Bs {R with W7:=R.W7.set i z}->w.grownBy w1 (some R.wb)->L Tryz.prog n ops Q rest e w1):L Tryz.prog n ops Q (⟨none,.store T x y,ty,ps,af,none⟩::rest) e w:=by
 have hln:(R.W7.flatMap spC).length=R.m*3:=by
  rw[<- hg.m.ji0];generalize R.W7=l
  induction l with
  |nil=>rfl
  |cons a l ih=>simp only[List.flatMap_cons,List.length_append,ih,List.length_cons];simp[spC];omega
 refine L.Bm0 (vs:=spC z) _ hx hy rfl hs rfl rfl hg.m.W7 (by simp only[List.size_toArray,hln];omega) (.inr (by simp)) ?_ (k _ (hg.Ql0 i z) (o2 _ _ _ _ _));rw[Nat.zero_add];exact Bo0 R.W7 i z (by rw[hg.m.ji0];exact hi)
end
section
variable [Ctx Tryz.prog]
theorem Fe0 (rb i:Nat) (c:CB) (w:World) (hC:O1 w c.cb (c.cells rb i) 149 (0,3)):C Tryz.prog 47 #[.p c.cb] w fun v w1=>v= .i (i:Int)/\w1=w:=by
 refine C.enter (n:=9) Tryz.func47 rfl rfl ?_;refine U3 ?_;refine U131 ?_;refine U183 ?_;refine U199 ?_;refine U546 ?_;refine L.va (F0 rfl Tryz.underlying3 rfl (hC.A0 0 (v:=.i (i:Int)) rfl)) ?_;refine U10 ?_;exact⟨rfl,rfl⟩
theorem xg0 (R:Rn) (Bs:Nat) (w0:World) (hM:H4 w0 Bs R) (hm:R.cl.length <=1000):C Tryz.prog 79 #[.p R.rb] w0 fun v w1=>v= .bool (R.cl.any (·.wt))/\w1=w0:=by
 refine C.enter (n:=19) Tryz.func79 rfl rfl ?_;refine U3 ?_;refine U30 ?_;refine U78 ?_;refine U178 ?_;refine U407 ?_;refine L.va (C5 rfl) ?_;refine U9 ?_;refine W.loop (fun k e w=>∃(i:Nat),k=R.cl.length-i/\e 0= .p R.rb/\e 2= .bool false/\e 8= .slice R.ca R.cl.length (R.cc)/\e 9= .i (R.cl.length:Nat)/\e 10= .i (i:Int)/\i <=R.cl.length/\(∀(j:Nat) (c:CB),j<i->R.cl[j]? =some c->c.wt=false)/\w=w0) _ ⟨0,rfl,rfl,rfl,rfl,rfl,rfl,Nat.zero_le _,fun j c hj=>absurd hj (Nat.not_lt_zero _),rfl⟩ ?_;rintro k e w ⟨i,hk,s0,s2,s8,s9,s10,hi,o7,hw⟩;rw[V2 s0,V2 s2,V2 s8,V2 s9,V2 s10];clear s0 s2 s8 s9 s10;subst hw;refine U3 ?_;refine L.va (cr0 rfl rfl) ?_;refine U274 ?_;refine W.fo0 rfl (fun h11=>?_) (fun h11=>?_)
 ·have T2:i<R.cl.length:=by omega
  obtain⟨c,hc⟩:∃c,R.cl[i]? =some c:=⟨_,List.getElem?_eq_getElem T2⟩
  refine U145 ?_;refine U3 ?_;refine U409 ?_;refine U27 ?_;refine U475 ?_;refine U7 ?_;refine W.cond rfl (fun h17=>?_) (fun h17=>?_)
  ·refine W.seq ?_;refine W.region rfl ?_;refine U63 ?_;exact⟨congrArg Value.bool (List.any_eq_true.2 ⟨c,List.mem_of_getElem? hc,h17⟩).symm,rfl⟩
  ·refine W.skip ?_;refine U120 ?_;refine U98 ?_;exact⟨_,by omega,⟨i+1,rfl,rfl,rfl,rfl,rfl,rfl,(by omega),(fun j d hj hd=>by
     rcases Nat.lt_or_ge j i with z|z
     ·exact o7 j d z hd
     ·obtain rfl:j=i:=by omega
      rw[hc]at hd;obtain rfl:=Option.some.inj hd;exact h17),rfl⟩⟩
 ·refine W.exit ?_;refine U101 ?_;refine U79 ?_;refine U63 ?_;exact⟨congrArg Value.bool (Xg0 o7 (by omega)).symm,rfl⟩
theorem qe0 (R:Rn) (Bs:Nat) (w0:World) (hM:H4 w0 Bs R) (hm:R.cl.length <=1000) (r:Nat->Bool) (hrd:∀(i:Nat) (c:CB),R.cl[i]? =some c->c.wt=true->tc0 w0 c.rf (r i)):C Tryz.prog 77 #[.p R.rb] w0 fun v w=>∃a cp,v= .slice a (rdl R.cl r R.cl.length).length cp/\Own w w0.heap.size 91 1 a (rdl R.cl r R.cl.length).length cp ((rdl R.cl r R.cl.length).map (Fc0 R.cl))/\Below w0.heap.size w0 w:=by
 refine C.enter (n:=39) Tryz.func77 rfl rfl ?_;refine U4 ?_;intro hb;refine L.va (cc0 rfl) ?_;refine U37 ?_;refine L.va (cc0 rfl) ?_;refine U33 ?_;refine U178 ?_;refine L.va (F0 rfl Tryz.underlying151 rfl ((hM.E0 hb).run.A0 0 (v:=.slice R.ca R.cl.length R.cc) rfl)) ?_;refine L.va (ba0 rfl Tryz.underlying151 rfl) ?_;refine L.va (C5 rfl) ?_;refine U9 ?_;refine W.loop (fun k e w=>∃(i:Nat),∃(a:Option Addr),∃(q:Nat),∃(cp:Nat),k=R.cl.length-i/\e 0= .p R.rb/\e 2= .slice none 0 0/\e 3= .slice a q cp/\e 9= .slice R.ca R.cl.length (R.cc)/\e 10= .i (R.cl.length:Nat)/\e 11= .i (i:Int)/\i <=R.cl.length/\q=(rdl R.cl r i).length/\Own w w0.heap.size 91 1 a q cp ((rdl R.cl r i).map (Fc0 R.cl))/\Below w0.heap.size w0 w) _ ⟨0,none,0,0,rfl,rfl,rfl,rfl,rfl,rfl,rfl,Nat.zero_le _,rfl,Own.nil _ _ _ _,hb⟩ ?_;rintro k e w ⟨i,a,q,cp,hk,s0,s2,s3,s9,s10,s11,hi,hq,hO,hb⟩;rw[V2 s0,V2 s2,V2 s3,V2 s9,V2 s10,V2 s11];clear s0 s2 s3 s9 s10 s11;refine U3 ?_;refine L.va (cr0 rfl rfl) ?_;refine U274 ?_;refine W.fo0 rfl (fun h12=>?_) (fun h12=>?_)
 ·have T2:i<R.cl.length:=by omega
  obtain⟨c,hc⟩:∃c,R.cl[i]? =some c:=⟨_,List.getElem?_eq_getElem T2⟩
  obtain⟨cb,rc,sp,rf,df,pk,wt,st⟩:=c;refine U145 ?_;refine U3 ?_;refine L.va (bc0 (i:=i) rfl rfl Tryz.underlying151 Eq0 hM.cls.sl T2) ?_;refine L.va (F0 (v:=.p cb) rfl Tryz.underlying91 rfl (Fb0 (hM.E0 hb) hc)) ?_;refine U39 ?_;refine W.seq ?_;cases wt with
  |false=>
   refine W.region rfl ?_;refine U57 ?_;refine L.va (F0 rfl Tryz.underlying4 rfl (((hM.E0 hb).blk i _ hc).A0 9 (v:=.bool false) rfl)) ?_;refine U226 ?_;refine U35 ?_;refine U35 ?_;refine U35 ?_;refine U35 ?_;refine U144 ?_;refine L.nil ?_;have hrl:=Fd0 (r:=r) hc rfl;show W _ _ _ _ _ _;refine U314 ?_;refine U120 ?_;exact U413
  |true=>
   rcases hrd i _ hc rfl with⟨h1,h2⟩|⟨f,fn,caps,h1,hf,hbd,hnm,Z4⟩
   all_goals dsimp only at h1
   all_goals subst h1
   ·refine W.region rfl ?_;refine U444 ?_;refine U124 ?_;refine U264 ?_;refine L.va (F0 rfl Tryz.underlying25 rfl (((hM.E0 hb).blk i _ hc).A0 6 (v:=.nilFunc) rfl)) ?_;refine L.on rfl ?_;refine L.va (B7 (v:=.nilFunc) (b:=true) rfl (.inl ⟨rfl,rfl⟩) rfl Tryz.underlying25 ⟨_,_,_,rfl⟩) ?_;refine L.on rfl ?_;refine U226 ?_;refine U35 ?_;refine L.off rfl ?_;refine L.on rfl ?_;refine L.va (g7 rfl) ?_;refine U177 ?_;have hrl:=zy0 (r:=r) hc h2;show W _ _ _ _ _ _;refine W.J4 rfl ?_;refine U584 ?_;refine U513 ?_;intro w b35 F35;have hb:=N0 hb F35.below;have hO:=hO.E0 F35.below;have Qm0:=F35.blk;have hOl:=xf0 (cl:=R.cl) (r:=r) i;refine L.dn0 (B:=w0.heap.size) (m:=1) rfl rfl Tryz.underlying151 Qe0 rfl (by decide) hO (fun h=>by cases h) (news:=[.p cb]) rfl (fun ad had j u hj=>by
     cases had;rw[Addr.add_lit]
     match j,hj with
     |0,hj=>cases hj;exact Qm0.A0 0 rfl) (fun u hu=>by simp only[List.mem_cons,List.not_mem_nil,or_false]at hu;subst hu;rfl) (by omega) (by omega) hb.size (fun a2 cp2 w2 hO2 hg2 cw0 _=>?_)
    have hb:=hb.trans cw0
    rename World=>w
    refine U292 ?_;refine U120 ?_;exact U370
   ·refine W.region rfl ?_;refine U444 ?_;refine U124 ?_;refine U264 ?_;refine U414 ?_;refine L.va (B7 (v:=.func (.func f) #[] caps) (b:=false) rfl (.inr ⟨_,_,_,rfl,rfl⟩) rfl Tryz.underlying25 ⟨_,_,_,rfl⟩) ?_;refine L.on rfl ?_;refine U124 ?_;refine U264 ?_;refine U414 ?_;refine L.call (cv0 rfl hf hbd hnm) (Z4 w hb) ?_;rintro _ w ⟨rfl,I1⟩;have hb:=N0 hb I1;have hO:=hO.E0 I1;refine L.on rfl ?_;refine L.va (b9 rfl) ?_;refine L.va (g7 rfl) ?_;refine U7 ?_;refine W.cond rfl (fun h32=>?_) (fun h32=>?_)
    ·have hrl:=zy0 (r:=r) hc h32;refine U584 ?_;refine U513 ?_;intro w b35 F35;have hb:=N0 hb F35.below;have hO:=hO.E0 F35.below;have Qm0:=F35.blk;have hOl:=xf0 (cl:=R.cl) (r:=r) i;refine L.dn0 (B:=w0.heap.size) (m:=1) rfl rfl Tryz.underlying151 Qe0 rfl (by decide) hO (fun h=>by cases h) (news:=[.p cb]) rfl (fun ad had j u hj=>by
      cases had;rw[Addr.add_lit]
      match j,hj with
      |0,hj=>cases hj;exact Qm0.A0 0 rfl) (fun u hu=>by simp only[List.mem_cons,List.not_mem_nil,or_false]at hu;subst hu;rfl) (by omega) (by omega) hb.size (fun a2 cp2 w2 hO2 hg2 cw0 _=>?_)
     have hb:=hb.trans cw0
     rename World=>w
     refine U292 ?_;refine U120 ?_;exact U370
    ·have hrl:=Fd0 (r:=r) hc h32;refine W.skip ?_;refine U120 ?_;exact U413
 ·refine W.exit ?_;refine U101 ?_;refine U79 ?_;refine L.va (az0 rfl) ?_;refine L.va (cc0 rfl) ?_;refine U7 ?_;refine U71 ?_;obtain rfl:i=R.cl.length:=by omega
  subst hq;exact⟨a,cp,rfl,hO,hb⟩
end
end Go.Vy.Sc
end
section
namespace Go.Vy
open Go Go.Conc Go.Yc Go.RowKit
open Go.Vc Go.Wg
def YS (P:Program) (main:Bool) (l:Q3) (K:B5->Prop):Nat->Nat->Goroutine->Prop:=fun m _ g=>∃s,K s/\Yc.Way P main l s m g
def okS (l:Q3) (e:Event):Prop:=∃p∈l,e=⟨.cell p.1,false,false⟩
theorem td0 {P:Program} {main:Bool} {l:Q3} {K:B5->Prop}:HF P main (okS l) (YS P main l K) :=
 ⟨fun m d g g' es h1 h2 h3 h4 ⟨s,hk,hw⟩=>⟨s,hk,.inr ⟨(by
  rcases hw.status with⟨_,h⟩|⟨h,_⟩
  ·exact h
  ·rw[h2]at h;cases h),h1,g',es,h3,fun w _=>h4 w,hw⟩⟩⟩
def Sits (n:Nat) (b:Frame) (cs:List Frame) (e:Env) (dst:Option Nat) (todo:List Item) (me:Goroutine):Prop:=∀v,∃a,G9 n a (Y2 e dst v)/\Go.Conc.served me v=G (b.at a todo) cs
theorem Sits.go {Z:Goroutine->World->Prop} {n:Nat} {b:Frame} {cs:List Frame} {e:Env} {dst:Option Nat} {todo:List Item} {me:Goroutine} (h:Sits n b cs e dst todo me) {v:Value} {w:World} (hz:ZA Z n b cs (Y2 e dst v) todo w):Z (Go.Conc.served me v) w:=by
 obtain⟨a,ha,he⟩:=h v;rw[he];exact hz a ha
theorem gw0 {b:Frame} {a:Act} {k:List Item} {cs:List Frame} {ops:Array Oper} {i:Nat} {rest:List Nat} {o:Oper} (ho:ops[i]? =some o) (v:Value):Go.Conc.served (G (b.at a (.inRegion ops (i::rest)::k)) cs) v=G (b.at (a.put o.dst v) (.inRegion ops rest::k)) cs:=by
 have:(b.at a (.inRegion ops (i::rest)::k)).finish v=b.at (a.put o.dst v) (.inRegion ops rest::k):=by rw[Frame.finish_at,ho];rfl
 show({frame:=(b.at a (.inRegion ops (i::rest)::k)).finish v,callers:=cs,status:=.running,dying:=none}:Goroutine)=_;rw[this];rfl
section
variable {P:Program}{main:Bool}{st:Q3}{K:B5->Prop}{ft n:Nat}{b:Frame}{cs:List Frame}{d:Nat}{e:Env}{k:List Item}{ops:Array Oper}{i:Nat}{l:List Oper}{dst:Option Nat}{ty:TypeId}{ps:String}{af:Array Edge}{T E:TypeId}{x y:Operand}
theorem I0.stay {p:Addr} {v:Value} {u:TypeDesc} (hk:b.kind≠.early) (hd:Y3 n dst=true) (hp:(p,v)∈st) (hx:ev e x= .pointer (some p)) (hT:P.underlying T=some u) (hu:H9 u=true)
  (h:I0 (YS P main st K) ft n b cs [] d (Y2 e dst v) ops (i+1) l k):I0 (YS P main st K) (ft+1) n b cs [] d e ops i (⟨dst,.load T x,ty,ps,af,none⟩::l) k:=by
 intro hl a ha;obtain⟨ho,n5⟩:=E3 hl;obtain⟨s,hs,hw⟩:=h n5 _ (ha.put hd v);have h0:0<ft:=by
  rcases hw.status with⟨_,h⟩|⟨h,_⟩
  ·exact h
  ·cases h
 refine⟨s,hs,.inr ⟨h0,rfl,_,seen P b.fn #[⟨.cell p,false,false⟩],fun ev' he=>⟨(p,v),hp,?_⟩,fun w u3=>?_,hw⟩⟩
 ·have:=mem_seen he;simpa using this
 ·have hc:=u3 (p,v) hp;show stepG P main (G (b.at a (.inRegion ops (i::List.range' (i+1) l.length)::k)) cs) w=_;rw[stepG_value ho (by rw[ha.yielded];rfl) hk (by rw[ha.eval];exact Go.Vc.F0 hx hT hu hc),listed];have he:∀es,(isAgg T).events P w es=es:=fun es=>by
   cases u <;> simp[isAgg,go_sem,run_underlying hT]
  have hq:(execOp a.eval ⟨dst,.load T x,ty,ps,af,none⟩).events P w #[]=#[⟨.cell p,false,false⟩]:=by
   rw[ha.eval];simp[execOp,Instr.loadAt,hx,Instr.sureAddr,loadVar,Go.Vc.r9 hT,hu,hc,he]
  rw[hq]
theorem I0.G1 {c:Nat} {z:Value} {dd:ChanDir} (hk:b.kind≠.early) (hT:P.underlying T=some (.chan dd E)) (hz:(P.info? E).bind (·.zero)=some z) (hx:ev e x= .chan (some c))
  (hK:∀me,Sits n b cs e dst (.inRegion ops (List.range' (i+1) l.length)::k) me->K ⟨c,z,me⟩) (hd:Y3 n dst=true):I0 (YS P main st K) (ft+1) n b cs [] d e ops i (⟨dst,.recv T x false,ty,ps,af,none⟩::l) k:=by
 intro hl a ha;obtain⟨ho,n5⟩:=E3 hl;refine⟨⟨c,z,G (b.at a (.inRegion ops (i::List.range' (i+1) l.length)::k)) cs⟩,hK _ fun v=>⟨a.put dst v,⟨(ha.put hd v).size,(ha.put hd v).defers,(ha.put hd v).get⟩,gw0 ho v⟩,.inl ⟨rfl,rfl,rfl,rfl,fun w=>?_⟩⟩;have hr:(execOp a.eval ⟨dst,.recv T x false,ty,ps,af,none⟩).run P w= .ok (.comm #[rcase c z] true (.recv false)) w:=by
  rw[ha.eval];obtain⟨inf,hi,hz'⟩:=Option.bind_eq_some_iff.1 hz;simp[execOp,hx,run_underlying hT,zeroValue,typeInfo,hi,hz',rcase,go_sem]
 show stepG P main (G (b.at a (.inRegion ops (i::List.range' (i+1) l.length)::k)) cs) w=_;have hq:(execOp a.eval ⟨dst,.recv T x false,ty,ps,af,none⟩).events P w #[]=#[]:=by
  rw[ha.eval];obtain⟨inf,hi,hz'⟩:=Option.bind_eq_some_iff.1 hz;simp[execOp,hx,run_underlying hT,zeroValue,typeInfo,hi,hz',go_sem]
 rw[stepG_comm ho (by rw[ha.yielded];rfl) hk hr,listed,hq,seen_none]
theorem qf0 {c:Nat} {v:Value} {a:Act} {rest:List Nat} (hk:b.kind≠.early) (ho:ops[i]? =some ⟨dst,.send x y,ty,ps,af,none⟩) (hx:a.eval x= .chan (some c)) (hy:a.eval y=v) (w:World) :
  stepG P main (G (b.at a (.inRegion ops (i::rest)::k)) cs) w= .comm (G (b.at a (.inRegion ops (i::rest)::k)) cs) #[scase c v (.tuple #[])] true .send w #[]:=by
 rw[stepG_comm (cases:=#[scase c v (.tuple #[])]) (blocking:=true) (shape:=.send) (w':=w) ho rfl hk (by simp[execOp,hx,hy,scase]),listed];have:(execOp a.eval ⟨dst,.send x y,ty,ps,af,none⟩).events P w #[]=#[]:=rfl;rw[this,seen_none]
theorem Ff0 {f:FuncId} {asx:Array Operand} {ats:Array TypeId} {a:Act} {rest:List Nat} (hk:b.kind≠.early) (ho:ops[i]? =some ⟨dst,.go {callee:=.value (.func f),args:=asx,argTypes:=ats},ty,ps,af,none⟩) (w:World) :
  stepG P main (G (b.at a (.inRegion ops (i::rest)::k)) cs) w= .spawn (G (b.at (a.put dst undef) (.inRegion ops rest::k)) cs) (born P (dcall f (asx.map a.eval))) w #[]:=by
 have ef:a.eval (.func f)= .func (.func f) #[] #[]:=rfl;have hr:(execOp a.eval ⟨dst,.go {callee:=.value (.func f),args:=asx,argTypes:=ats},ty,ps,af,none⟩).run P w= .ok (.spawn (dcall f (asx.map a.eval))) w:=by
  unfold execOp;simp[resolve,Deferred.ofValue,ef,dcall]
 have he:(execOp a.eval ⟨dst,.go {callee:=.value (.func f),args:=asx,argTypes:=ats},ty,ps,af,none⟩).events P w #[]=#[]:=by
  unfold execOp;simp[resolve,Deferred.ofValue,ef]
 rw[stepG_spawn ho rfl hk hr rfl,listed,he,seen_none]
end
section
variable {P:Program}{main:Bool}{b c:Frame}{a:Act}{k todo:List Item}{cs:List Frame}{w:World}{ops:Array Oper}{i:Nat}{rest:List Nat}{f:FuncId}{fn:Func}{args caps:Array Value}{ds:List Deferred}
theorem cz0 {md:FrameMode} {body:Code} (hmd:md≠.run) (hd:a.defers={target:=.fn (.func f) caps,args:=args} :: ds) (hf:P.funcs[f]? =some fn) (P2:(fn.name== "runtime.NumGoroutine")=false) (hb:fn.body=some body) :
  stepG P main (G {b.at a todo with mode:=md} cs) w= .go (G ((baseD f).at {tmps:=(args++caps)++Array.replicate (fn.ntmps-(args++caps).size) undef,defers:=[]} [.code body]) ({b.at ⟨a.tmps,ds⟩ todo with mode:=md} :: cs)) w #[]:=by
 have h1:¬fn.name= "runtime.NumGoroutine":=by simpa using P2
 rw[<- enter_atD (args++caps) hf hb];cases md with
 |run=>exact absurd rfl hmd
 |returning=>simp[G,stepG,unwind,callDeferred,Frame.at,hd,invoke,callFunc,hf,h1,hb,GStep.after,seen_none]
 |panicking ch=>simp[G,stepG,unwind,callDeferred,Frame.at,hd,invoke,callFunc,hf,h1,hb,GStep.after,seen_none]
theorem ir0 {ρ:Operand->Value} {dst:Option Nat} {ty:TypeId} {ps:String} {af:Array Edge}:((execOp ρ ⟨dst,.call {callee:=.builtin .recover,args:=#[],argTypes:=#[]},ty,ps,af,none⟩).run P w= .ok .recover w)/\(execOp ρ ⟨dst,.call {callee:=.builtin .recover,args:=#[],argTypes:=#[]},ty,ps,af,none⟩).events P w #[]=#[]:=by
 constructor <;> simp[execOp,resolve,invoke,builtin]
theorem ce0 {dst:Option Nat} {ty:TypeId} {ps:String} {af:Array Edge} (ho:ops[i]? =some ⟨dst,.call {callee:=.builtin .recover,args:=#[],argTypes:=#[]},ty,ps,af,none⟩) (hk:b.kind= .deferred) (hr:b.roundOf=none) (hc:c.mode= .returning) :
  stepG P main (G (b.at a (.inRegion ops (i::rest)::k)) (c::cs)) w= .go (G (b.at (a.put dst .nilIface) (.inRegion ops rest::k)) (c::cs)) w #[]:=by
 have ch0:(b.at a (.inRegion ops (i::rest)::k)).finish .nilIface=b.at (a.put dst .nilIface) (.inRegion ops rest::k):=by rw[Frame.finish_at,ho];rfl
 rw[stepG_oper ho rfl,<- ch0];simp[stepG.apply,ir0,G,Frame.at,hk,tryRecover,hc,GStep.after,seen_none]
theorem gx0 {dst:Option Nat} {ty:TypeId} {ps:String} {af:Array Edge} {v:Value} {A4:List PanicEntry} (ho:ops[i]? =some ⟨dst,.call {callee:=.builtin .recover,args:=#[],argTypes:=#[]},ty,ps,af,none⟩) (hk:b.kind= .deferred) (hr:b.roundOf=none) (hc:c.mode= .panicking ({v,recovered:=false} :: A4)) :
  stepG P main (G (b.at a (.inRegion ops (i::rest)::k)) (c::cs)) w= .go (G (b.at (a.put dst v) (.inRegion ops rest::k)) ({c with mode:=.panicking ({v,recovered:=true} :: A4)} :: cs)) w #[]:=by
 have ch0:(b.at a (.inRegion ops (i::rest)::k)).finish v=b.at (a.put dst v) (.inRegion ops rest::k):=by rw[Frame.finish_at,ho];rfl
 rw[stepG_oper ho rfl,<- ch0];simp[stepG.apply,ir0,G,Frame.at,hk,tryRecover,hc,GStep.after,seen_none]
theorem gy0 {v v':Value} {A4:List PanicEntry} (hn:b.kind= .deferred) (hd:a.defers=[]) (hf:P.funcs[b.fn]? =some fn) (hr:(results fn a.tmps).run P w= .ok v w) (he:(results fn a.tmps).events P w #[]=#[])
  (hc:c.mode= .panicking ({v:=v',recovered:=true} :: A4)) (ho:A4.dropWhile (!·.goexit)=[]) :
  stepG P main (G {b.at a todo with mode:=.returning} (c::cs)) w= .go (G {c with mode:=.returning} cs) w #[]:=by
 simp[G,stepG,unwind,doReturn,Frame.at,hn,hd,hf,hr,he,hc,ho,seen,GStep.after]
theorem ve0 {dst:Option Nat} {ty:TypeId} {ps:String} {af:Array Edge} {x:Operand} (ho:ops[i]? =some ⟨dst,.defer {callee:=.value x,args:=#[],argTypes:=#[]},ty,ps,af,none⟩) (hk:b.kind≠.early) (hx:a.eval x= .func (.func f) #[] caps) :
  stepG P main (G (b.at a (.inRegion ops (i::rest)::k)) cs) w= .go (G (b.at (Act.put ⟨a.tmps,{target:=.fn (.func f) caps,args:=#[]} :: a.defers⟩ dst undef) (.inRegion ops rest::k)) cs) w #[]:=by
 have hr:(execOp a.eval ⟨dst,.defer {callee:=.value x,args:=#[],argTypes:=#[]},ty,ps,af,none⟩).run P w= .ok (.defer {target:=.fn (.func f) caps,args:=#[]}) w:=by
  simp[execOp,resolve,Deferred.ofValue,hx]
 have he:(execOp a.eval ⟨dst,.defer {callee:=.value x,args:=#[],argTypes:=#[]},ty,ps,af,none⟩).events P w #[]=#[]:=by
  simp[execOp,resolve,Deferred.ofValue,hx]
 have ch0:(b.at ⟨a.tmps,{target:=.fn (.func f) caps,args:=#[]} :: a.defers⟩ (.inRegion ops (i::rest)::k)).finish undef=b.at (Act.put ⟨a.tmps,{target:=.fn (.func f) caps,args:=#[]} :: a.defers⟩ dst undef) (.inRegion ops rest::k):=by rw[Frame.finish_at,ho];rfl
 have hk':(b.kind==CallKind.early)=false:=by simpa using hk
 rw[stepG_oper ho rfl,<- ch0];simp[stepG.apply,hr,he,G,Frame.at,hk',GStep.after,seen_none]
def Z5 (P:Program):Frame:={fn:=P.funcs.size,tmps:=#[],todo:=[],defers:=[],mode:=.panicking [goexitEntry],kind:=.normal,roundOf:=none}
theorem Bp0 {body:Code} (hf:P.funcs[f]? =some fn) (P2:(fn.name== "runtime.NumGoroutine")=false) (hb:fn.body=some body) :
  stepG P main (born P (dcall f args)) w= .go (G ((baseD f).at {tmps:=args++Array.replicate (fn.ntmps-args.size) undef,defers:=[]} [.code body]) [Z5 P]) w #[]:=by
 have h1:¬fn.name= "runtime.NumGoroutine":=by simpa using P2
 rw[<- enter_atD args hf hb];simp[born,G,stepG,unwind,callDeferred,dcall,invoke,callFunc,hf,h1,hb,GStep.after,seen_none,Z5];exact⟨rfl,rfl,rfl,rfl⟩
theorem qg0 (hn:b.kind= .deferred) (hd:a.defers=[]) (hf:P.funcs[b.fn]? =some fn) {v:Value} (hr:(results fn a.tmps).run P w= .ok v w) (he:(results fn a.tmps).events P w #[]=#[]) :
  stepG P main (G {b.at a todo with mode:=.returning} [Z5 P]) w= .go (G (Z5 P) []) w #[]:=by
 simp[G,stepG,unwind,doReturn,Frame.at,hn,hd,hf,hr,he,seen,GStep.after,Z5,goexitEntry]
theorem qh0:stepG P main (G (Z5 P) []) w= .go {frame:=Z5 P,callers:=[],status:=.finished,dying:=none} w #[]:=by
 simp[G,stepG,unwind,Z5,goexitEntry,Frame.catches]
end
section
variable {P:Program}[Ctx P]{Z:Goroutine->World->Prop}{Q:Exit->Act->World->Prop}{ops:Array Oper}{b:Frame}{k:List Item}{cs:List Frame}{n:Nat}{e:Env}{w:World}
theorem ZA.J4 (hZ:Ctx.Zs P Z) {c:Operand} {x y:Code} (hc:ev e c= .bool true) (h:ZA Z n b cs e (.code x::k) w):ZA Z n b cs e (.code (.cond c x y)::k) w:=ZA.cond hZ (t:=true) hc h
theorem ZA.v5 (hZ:Ctx.Zs P Z) {c:Operand} {x y:Code} (hc:ev e c= .bool false) (h:ZA Z n b cs e (.code y::k) w):ZA Z n b cs e (.code (.cond c x y)::k) w:=ZA.cond hZ (t:=false) hc h
theorem ZA.W (hZ:Ctx.Zs P Z) (hb:b.kind≠.early) {c:Code} (h:Vy.W P n c (y7 (fun e' w'=>ZA Z n b cs e' k w') fun _ _ _=>False) e w):ZA Z n b cs e (.code c::k) w:=ZA.piece hZ hb h fun _ _ h=>h
theorem ZA.panics (hZ:Ctx.Zs P Z) (hb:b.kind≠.early) {c:Code} (h:Vy.W P n c (fun x e' w'=>∃ch,x= .panic ch/\∀a todo,G9 n a e'->Z (G {b.at a todo with mode:=.panicking ch} cs) w') e w):ZA Z n b cs e (.code c::k) w:=by
 intro a ha;refine h a ha Z hZ b k cs hb fun x a' w' hx=>?_;obtain⟨e',r,ch,rfl,hq⟩:=hx;exact fun todo=>hq a' todo r
theorem L.Fg0 {x:Operand} {ty:TypeId} {ps:String} {af:Array Edge} {rest:List Oper} {Q:Exit->Env->World->Prop} {t:TypeId} {v0:Value} (hx:ev e x= .iface t v0) (k:Q (.panic [{v:=.iface t v0,recovered:=false}]) e w):L P n ops Q (⟨none,.panic x,ty,ps,af,none⟩::rest) e w:=by
 refine L.Pi0 rfl ⟨rfl,rfl,fun τ d ρ x' hs=>⟨V8.refl _,x',#[],?_,hs,fun e he=>by simp at he⟩⟩ k;rw[Sem.runT_eq];have h1:(execOp (ev e) ⟨none,.panic x,ty,ps,af,none⟩).run P x'= .halt (.panic (.iface t v0)) x':=by simp[execOp,Instr.panic,hx]
 have h2:(execOp (ev e) ⟨none,.panic x,ty,ps,af,none⟩).events P x' #[]=#[]:=by simp[execOp,Instr.panic,hx]
 rw[h1,h2];rfl
end
section
variable {P:Program}{Z:Goroutine->World->Prop}{b:Frame}{cs:List Frame}{n:Nat}{e:Env}{w:World}
theorem ZA.leaves {fn:Func} {f:FuncId} (hb:b=base f) (hf:P.funcs[f]? =some fn) (hr:fn.results=#[]) (h:∀fr,fr.fn=f->Leaves P fr w (.returned (.tuple #[]))->Z (G fr cs) w):ZR Z n b cs e w:=by
 intro todo a ha;subst hb;refine h _ rfl ⟨rfl,ha.defers,rfl,fn,hf,O6 (fun w=>results_none hr _ P w) (fun w=>events_results_none hr _ _)⟩
end
section
variable {P:Program}[Ctx P]{Z:Goroutine->World->Prop}{ops:Array Oper}{b:Frame}{k:List Item}{cs:List Frame}{n:Nat}{e:Env}{w:World}
theorem ZA.call (hZ:Ctx.Zs P Z) (hb:b.kind≠.early) {i:Nat} {rest:List Nat} {o:Oper} {f:FuncId} {args:Array Value} (ho:ops[i]? =some o) (hg:o.guard=none) (hr:Does P (execOp (ev e) o) w (.enter f args) w)
  (h:∀a,G9 n a e->Z (G (Frame.enter P f args .normal) (b.at a (.inRegion ops (i::rest)::k)::cs)) w):ZA Z n b cs e (.inRegion ops (i::rest)::k) w:=by
 intro a ha;have hw:Region.wanted o (yielded ops a.tmps)=true:=by
  obtain⟨d,op,ty,ps,af,g⟩:=o;cases hg;rfl
 refine(Ctx.cl Z hZ).own _ _ rfl fun τ d=>?_;refine⟨_,j3 w τ d,w.drawn,⟨rfl,fun ρ x hx=>?_⟩,h a ha⟩;obtain⟨h1,x',es,h2,h3,h4⟩:=hr.go τ d ρ x hx;rw[Sem.runT_eq]at h2;obtain⟨h5,h6⟩:=Prod.mk.inj h2;refine⟨h1,x',seen P b.fn es,?_,h3,fun e he=>h4 e (mem_seen he)⟩;have h5':(execOp a.eval o).run P x= .ok (.enter f args) x':=by rw[ha.eval];exact h5
 rw[stepG_enter ho hw hb h5',listed,ha.eval,h6]
theorem ZA.home {i:Nat} {rest:List Nat} {o:Oper} (ho:ops[i]? =some o) (hd:Y3 n o.dst=true) {v:Value} {w':World} {a:Act} (ha:G9 n a e) (h:ZA Z n b cs (Y2 e o.dst v) (.inRegion ops rest::k) w'):Z (G ((b.at a (.inRegion ops (i::rest)::k)).finish v) cs) w':=by
 have ch0:(b.at a (.inRegion ops (i::rest)::k)).finish v=b.at (a.put o.dst v) (.inRegion ops rest::k):=by rw[Frame.finish_at,ho];rfl
 rw[ch0];exact h _ (ha.put hd v)
end
section
variable {P:Program}{ops:Array Oper}{b:Frame}{k:List Item}{cs:List Frame}{n:Nat}{e:Env}
theorem ZA.back {Z':Goroutine->World->Prop} {main:Bool} (hZ':Cl P main Z') {i:Nat} {rest:List Nat} {o:Oper} (ho:ops[i]? =some o) (hd:Y3 n o.dst=true) {v:Value} {w':World} {fr:Frame} {a:Act} (ha:G9 n a e) (hl:Leaves P fr w' (.returned v))
  (h:ZA Z' n b cs (Y2 e o.dst v) (.inRegion ops rest::k) w'):Z' (G fr (b.at a (.inRegion ops (i::rest)::k)::cs)) w':=by
 refine D9 hZ' hl ?_;have ch0:(b.at a (.inRegion ops (i::rest)::k)).finish v=b.at (a.put o.dst v) (.inRegion ops rest::k):=by rw[Frame.finish_at,ho];rfl
 rw[ch0];exact h _ (ha.put hd v)
end
section
variable {P:Program}[Ctx P]
end
section
variable {P:Program}[Ctx P]{Z:Goroutine->World->Prop}{ops:Array Oper}{b c:Frame}{k:List Item}{cs:List Frame}{n:Nat}{e:Env}{w:World}{i:Nat}{rest:List Nat}{dst:Option Nat}{ty:TypeId}{ps:String}{af:Array Edge}
theorem ZA.gz0 (hZ:Ctx.Zs P Z) (ho:ops[i]? =some ⟨dst,.call {callee:=.builtin .recover,args:=#[],argTypes:=#[]},ty,ps,af,none⟩) (hd:Y3 n dst=true) (hk:b.kind= .deferred) (hr:b.roundOf=none) (hc:c.mode= .returning) (h:ZA Z n b (c::cs) (Y2 e dst .nilIface) (.inRegion ops rest::k) w):ZA Z n b (c::cs) e (.inRegion ops (i::rest)::k) w :=
 fun _a ha=>(Ctx.cl Z hZ).ctl rfl rfl (fun _w=>ce0 ho hk hr hc) (h _ (ha.put hd _))
theorem ZA.xh0 (hZ:Ctx.Zs P Z) {v:Value} {A4:List PanicEntry} (ho:ops[i]? =some ⟨dst,.call {callee:=.builtin .recover,args:=#[],argTypes:=#[]},ty,ps,af,none⟩) (hd:Y3 n dst=true) (hk:b.kind= .deferred) (hr:b.roundOf=none) (hc:c.mode= .panicking ({v,recovered:=false} :: A4)) (h:ZA Z n b ({c with mode:=.panicking ({v,recovered:=true} :: A4)} :: cs) (Y2 e dst v) (.inRegion ops rest::k) w):ZA Z n b (c::cs) e (.inRegion ops (i::rest)::k) w :=
 fun _a ha=>(Ctx.cl Z hZ).ctl rfl rfl (fun _w=>gx0 ho hk hr hc) (h _ (ha.put hd _))
def Nt0 (c c':Frame):Prop:=(c.mode= .returning/\c'=c)\/∃v A4,A4.dropWhile (!·.goexit)=[]/\c'={c with mode:=.panicking ({v,recovered:=true} :: A4)}
theorem ZA.recover (hZ:Ctx.Zs P Z) (ho:ops[i]? =some ⟨dst,.call {callee:=.builtin .recover,args:=#[],argTypes:=#[]},ty,ps,af,none⟩) (hd:Y3 n dst=true) (hk:b.kind= .deferred) (hr:b.roundOf=none) (hc:c.mode= .returning\/∃v A4,c.mode= .panicking ({v,recovered:=false} :: A4)/\A4.dropWhile (!·.goexit)=[])
  (h:∀c' v,Nt0 c c'->ZA Z n b (c'::cs) (Y2 e dst v) (.inRegion ops rest::k) w):ZA Z n b (c::cs) e (.inRegion ops (i::rest)::k) w:=by
 rcases hc with hc|⟨v,A4,hc,ho'⟩
 ·exact ZA.gz0 hZ ho hd hk hr hc (h c _ (.inl ⟨hc,rfl⟩))
 ·exact ZA.xh0 hZ ho hd hk hr hc (h _ _ (.inr ⟨v,A4,ho',rfl⟩))
theorem ZA.region (hZ:Ctx.Zs P Z) {id:Nat} (h:ZA Z n b cs e (.inRegion ops (List.range ops.size)::k) w):ZA Z n b cs e (.code (.region id ops false)::k) w:=ZA.c hZ (fun _ _=>stepG_region) h
def ZD (Z:Goroutine->World->Prop) (n:Nat) (b:Frame) (cs:List Frame) (ds:List Deferred) (e:Env) (todo:List Item) (w:World):Prop:=∀a,cx0 n a e ds->Z (G (b.at a todo) cs) w
variable {ds:List Deferred}
theorem ZA.zd (h:ZD Z n b cs [] e k w):ZA Z n b cs e k w:=fun a ha=>h a (Xh0 ha) where Xh0 {n:Nat} {a:Act} {e:Env} (h:G9 n a e):cx0 n a e []:=⟨h.size,h.defers,h.get⟩
theorem ZD.ctl (hZ:Ctx.Zs P Z) {todo iq0:List Item} (hs:∀a w,stepG P (Ctx.main P) (G (b.at a todo) cs) w= .go (G (b.at a iq0) cs) w #[]) (h:ZD Z n b cs ds e iq0 w):ZD Z n b cs ds e todo w:=fun a ha=>(Ctx.cl Z hZ).ctl rfl rfl (hs a) (h a ha)
theorem ZD.seq (hZ:Ctx.Zs P Z) {x y:Code} (h:ZD Z n b cs ds e (.code x :: .code y::k) w):ZD Z n b cs ds e (.code (.seq x y)::k) w:=ZD.ctl hZ (fun _ _=>stepG_seq) h
theorem ZD.region (hZ:Ctx.Zs P Z) {id:Nat} (h:ZD Z n b cs ds e (.inRegion ops (List.range ops.size)::k) w):ZD Z n b cs ds e (.code (.region id ops false)::k) w:=ZD.ctl hZ (fun _ _=>stepG_region) h
theorem ZD.k3 (hZ:Ctx.Zs P Z) (h:ZD Z n b cs ds e k w):ZD Z n b cs ds e (.inRegion ops []::k) w:=ZD.ctl hZ (fun _ _=>stepG_region_end) h
variable {op:Op}{d:Nat}{v:Value}{w':World}
theorem ZD.va (hZ:Ctx.Zs P Z) (hb:b.kind≠.early) (ho:ops[i]? =some ⟨some d,op,ty,ps,af,none⟩) (hd:Y3 n (some d)=true) (hr:Does P (execOp (ev e) ⟨some d,op,ty,ps,af,none⟩) w (.val v) w') (h:ZD Z n b cs ds (upd e d v) (.inRegion ops rest::k) w'):ZD Z n b cs ds e (.inRegion ops (i::rest)::k) w:=by
 intro a ha;refine U499 ?_;refine Z7 (r:=.val v) (w':=w') (by rw[ha.eval];exact hr) ?_;exact h _ (ha.put hd v)
theorem ZD.st (hZ:Ctx.Zs P Z) (hb:b.kind≠.early) (ho:ops[i]? =some ⟨none,op,ty,ps,af,none⟩) (hr:Does P (execOp (ev e) ⟨none,op,ty,ps,af,none⟩) w .skip w') (h:ZD Z n b cs ds e (.inRegion ops rest::k) w'):ZD Z n b cs ds e (.inRegion ops (i::rest)::k) w:=by
 intro a ha;refine U499 ?_;refine Z7 (r:=.skip) (w':=w') (by rw[ha.eval];exact hr) ?_;exact h _ ha
theorem ZD.defer (hZ:Ctx.Zs P Z) (hb:b.kind≠.early) {f:FuncId} {asx:Array Operand} {ats:Array TypeId} {vs:Array Value} (ho:ops[i]? =some ⟨none,.defer {callee:=.value (.func f),args:=asx,argTypes:=ats},ty,ps,af,none⟩) (hv:asx.map (ev e)=vs) (h:ZD Z n b cs (dcall f vs::ds) e (.inRegion ops rest::k) w):ZD Z n b cs ds e (.inRegion ops (i::rest)::k) w:=by
 intro a ha;refine(Ctx.cl Z hZ).ctl rfl rfl (fun w=>stepG_defer ho rfl hb rfl) ?_;rw[ha.eval,hv,ha.defers];exact h _ ⟨ha.size,rfl,ha.get⟩
theorem ZD.Qn0 (hZ:Ctx.Zs P Z) (hb:b.kind≠.early) {f:FuncId} {caps:Array Value} {x:Operand} (ho:ops[i]? =some ⟨none,.defer {callee:=.value x,args:=#[],argTypes:=#[]},ty,ps,af,none⟩) (hx:ev e x= .func (.func f) #[] caps) (h:ZD Z n b cs ({target:=.fn (.func f) caps,args:=#[]} :: ds) e (.inRegion ops rest::k) w):ZD Z n b cs ds e (.inRegion ops (i::rest)::k) w:=by
 intro a ha;refine(Ctx.cl Z hZ).ctl rfl rfl (fun w=>ve0 ho hb (by rw[ha.eval];exact hx)) ?_;rw[ha.defers];exact h _ ⟨ha.size,rfl,ha.get⟩
theorem ZD.call (hZ:Ctx.Zs P Z) (hb:b.kind≠.early) {f:FuncId} {args:Array Value} (ho:ops[i]? =some ⟨dst,op,ty,ps,af,none⟩) (hr:Does P (execOp (ev e) ⟨dst,op,ty,ps,af,none⟩) w (.enter f args) w)
  (h:∀a,cx0 n a e ds->Z (G (Frame.enter P f args .normal) (b.at a (.inRegion ops (i::rest)::k)::cs)) w):ZD Z n b cs ds e (.inRegion ops (i::rest)::k) w:=by
 intro a ha;refine(Ctx.cl Z hZ).own _ _ rfl fun τ d=>?_;refine⟨_,j3 w τ d,w.drawn,⟨rfl,fun ρ x hx=>?_⟩,h a ha⟩;obtain⟨h1,x',es,h2,h3,h4⟩:=hr.go τ d ρ x hx;rw[Sem.runT_eq]at h2;obtain⟨h5,h6⟩:=Prod.mk.inj h2;refine⟨h1,x',seen P b.fn es,?_,h3,fun e he=>h4 e (mem_seen he)⟩;have h5':(execOp a.eval ⟨dst,op,ty,ps,af,none⟩).run P x= .ok (.enter f args) x':=by rw[ha.eval];exact h5
 rw[stepG_enter ho rfl hb h5',listed,ha.eval,h6]
end
section
variable {P:Program}{Post:Value->World->Prop}{X:Gh}{h:Nat}{H:Hid}
theorem V3:@Ctx.Zs P (V1 P (h==0)) (Fin P Post X h):=⟨am0 P Post X h,g9⟩
theorem zz0:@Ctx.Zs P (V1 P (h==0)) (dx0 P Post X h H):=⟨Jr0 H,fun _g _u hz hH=>g9 _ _ fun hv=>hz (ft0 hH hv) hH⟩
theorem ju0 (V:Nat->Prop) [DecidablePred V] {g:Goroutine} {U:World} (hf:dx0 P Post X h (Q7 V U) g (H3 V U)):Fin P Post X h g U :=
 g9 _ _ fun hv=>by have:=hf (kx0 hv);rwa [fs0]at this
theorem At.k3 {main:Bool} {ok:Event->Prop} {Y:Nat->Nat->Goroutine->Prop} {ft n d:Nat} {b:Frame} {cs:List Frame} {ds:List Deferred} {e:Env} {k:List Item} {ops:Array Oper} (hY:HF P main ok Y) (h:At Y ft n b cs ds d e k):At Y (ft+1) n b cs ds d e (.inRegion ops []::k):=At.c hY (fun _ _=>stepG_region_end) h
theorem L5 {n:Nat} (args:Array Value) (m:Nat) (hn:args.size+(m-args.size)=n):G9 n {tmps:=args++Array.replicate (m-args.size) undef,defers:=[]} (Vc.Q6 args):=by
 have:=C7 args m hn;exact⟨this.size,this.defers,this.get⟩
theorem fx0 {n:Nat} {a:Act} {e:Env} (h:G9 n a e):cx0 n a e []:=⟨h.size,h.defers,h.get⟩
variable {n ft:Nat}{b:Frame}{cs:List Frame}{e:Env}{k:List Item}{ops:Array Oper}{i:Nat}{rest:List Nat}{ty:TypeId}{ps:String}{af:Array Edge}{x y:Operand}{v:Value}{w:World}
theorem ZA.more [Ctx P] {Z:Goroutine->World->Prop} (hZ:Ctx.Zs P Z) (hb:b.kind≠.early) {l:List Oper} (i:Nat) (hB:Di0 n l=true) (h:L P n l.toArray (y7 (fun e' w'=>ZA Z n b cs e' k w') fun _ _ _=>False) (l.drop i) e w):ZA Z n b cs e (.inRegion l.toArray (List.range' i (l.drop i).length)::k) w:=by
 intro a ha;have h1:=h (fun o ho=>List.all_eq_true.1 hB o (List.mem_of_mem_drop ho)) a ha;have h2:=eq0 (l.drop i) i a w (fun j _=>by rw[List.getElem?_drop];simp) h1;have:=do0 (Z:=Z) (b:=b) (k:=k) (cs:=cs) (suf:=[]) hZ hb (fun ch a' w' hx=>by obtain⟨_,_,hx⟩:=hx;exact hx.elim) (fun a' w' hx=>by
  obtain⟨e',r,hq⟩:=hx;exact ZA.k3 hZ hq a' r) _ a w h2
 rwa [List.append_nil]at this
theorem ZA.give {j:Nat} {s:B5} {st:Q3} {K:B5->Prop} (hb:b.kind≠.early) (ho:ops[i]? =some ⟨none,.send x y,ty,ps,af,none⟩) (hx:ev e x= .chan (some s.ch)) (hy:ev e y=v) (hj:X.G1 j=some s) (hjh:j≠h) (J8:X.dn=0) (S2:X.stay h=st)
  (sc0:At (YS P (h==0) st K) ft n b cs [] 0 e (.inRegion ops rest::k)) (hsh:∀s',K s'->X.I7 s'.ch/\∀i s2,i≠j->X.G1 i=some s2->s2.ch≠s'.ch)
  (hF:∀s',K s'->Fin P Post (X.pass h j (some s')) j (Go.Conc.served s.me v) w):ZA (Fin P Post X h) n b cs e (.inRegion ops (i::rest)::k) w:=by
 intro a ha;have Fh0:a.put none undef=a:=rfl;obtain⟨s',hK,hw⟩:=sc0 a (fx0 ha);refine Fin.give (a₂:=G (b.at a (.inRegion ops (i::rest)::k)) cs) (s:=s) (j:=j) (nh:=ft) (v:=v) (z':=.tuple #[]) rfl hj hjh J8 (qf0 hb ho (by rw[ha.eval];exact hx) (by rw[ha.eval];exact hy)) (some s') (fun s2 e2=>by cases e2;exact hsh s' hK) ?_ (hF s' hK);unfold sd0;rw[gw0 ho,S2];exact hw
theorem ZA.ld0 {j:Nat} {s:B5} {gr:I4} (hb:b.kind≠.early) (ho:ops[i]? =some ⟨none,.send x y,ty,ps,af,none⟩) (hx:ev e x= .chan (some s.ch)) (hy:ev e y=v) (hj:X.G1 j=some s) (hjh:j≠h) (J8:X.dn=0) (hh:0<h) (o3:X.L2=some gr)
  (sc0:At (YLt P gr) ft n b cs [] 0 e (.inRegion ops rest::k)) (hF:Fin P Post (X.pass h j none) j (Go.Conc.served s.me v) w):ZA (Fin P Post X h) n b cs e (.inRegion ops (i::rest)::k) w:=by
 intro a ha;refine Fin.give (a₂:=G (b.at a (.inRegion ops (i::rest)::k)) cs) (s:=s) (j:=j) (nh:=ft) (v:=v) (z':=.tuple #[]) rfl hj hjh J8 (qf0 hb ho (by rw[ha.eval];exact hx) (by rw[ha.eval];exact hy)) none (fun s2 e2=>by cases e2) ?_ hF;unfold sd0;rw[gw0 ho];exact⟨hh,gr,o3,sc0 a (fx0 ha)⟩
theorem ZA.spawn {f:FuncId} {asx:Array Operand} {ats:Array TypeId} {st:Q3} {K:B5->Prop} {vs:Array Value} {gr:I4} (hb:b.kind≠.early) (ho:ops[i]? =some ⟨none,.go {callee:=.value (.func f),args:=asx,argTypes:=ats},ty,ps,af,none⟩) (hvs:asx.map (ev e)=vs) (J8:X.dn=0) (hp:X.pend=1) (o3:X.L2=some gr) (S2:X.stay 0=st)
  (sc0:At (YS P true st K) ft n b cs [] 0 e (.inRegion ops rest::k)) (hsh:∀s',K s'->X.I7 s'.ch/\∀i s2,X.G1 i=some s2->s2.ch≠s'.ch)
  (hF:∀s',K s'->Fin P Post (X.hire s') X.n (born P (dcall f vs)) w):ZA (Fin P Post X 0) n b cs e (.inRegion ops (i::rest)::k) w:=by
 intro a ha;have Fh0:a.put none undef=a:=rfl;obtain⟨s',hK,hw⟩:=sc0 a (fx0 ha);refine Fin.spawn (g':=G (b.at (a.put none undef) (.inRegion ops rest::k)) cs) (child:=born P (dcall f vs)) (s:=s') (nh:=ft) (G:=gr) rfl J8 hp o3 (fun w=>?_) (hsh s' hK).1 (hsh s' hK).2 (by rw[S2];exact hw) (hF s' hK);rw[Ff0 hb ho,ha.eval,hvs]
theorem AtR.saved {Y:Nat->Nat->Goroutine->Prop} {main:Bool} {ok:Event->Prop} (hY:HF P main ok Y) {c c':Frame} {fn:Func} {todo:List Item} {d:Nat} (hs:Nt0 c c') (hn:b.kind= .deferred) (hf:P.funcs[b.fn]? =some fn) (hr:fn.results=#[]) (h:Y ft d (G {c with mode:=.returning} cs)):AtR Y (ft+1) n b (c'::cs) [] d e todo:=by
 intro a ha;rcases hs with⟨hc,rfl⟩|⟨v,A4,ho,rfl⟩
 ·have:({c' with mode:=.returning}:Frame)=c':=by rw[<- hc]
  rw[this]at h;exact hY.c rfl rfl (fun w=>stepG_leave_deferred hn ha.defers hf (results_none hr _ P w) (events_results_none hr _ _) hc) h
 ·refine hY.c rfl rfl (fun w=>?_) h;exact gy0 hn ha.defers hf (results_none hr _ P w) (events_results_none hr _ _) rfl ho
end
end Go.Vy
end
section
namespace Go.Vy.Sc
open Go Go.Conc Go.Yc Go.RowKit Go.Proofs Go.Proofs.YtnifpkopeheodaaGreat Try
open Go.Vc Go.Wg
structure le0 (cs:List Frame) (cb:Nat) (df:Value) (me:Goroutine):Prop where
 yes:∀(C0:Ctx Tryz.prog) (Z:Goroutine->World->Prop),@Ctx.Zs Tryz.prog C0 Z->∀(u:World) (K:World->Prop),Bj0 Tryz.prog C0 df u K->(∀u2 fr,K u2->fr.fn=83->Leaves Tryz.prog fr u2 (.returned (.tuple #[]))->Z (G fr cs) u2)->Z (Go.Conc.served me (.bool true)) u
 no:∀Z,@Ctx.Zs Tryz.prog (V1 Tryz.prog false) Z->∀(u:World) (S:Nat->Prop) (B:Nat) (w0:World) (Bs:Nat) (R:Rn) (i:Nat) (c:CB),Rg S B w0 u Bs R->R.cl[i]? =some c->c.cb=cb->(∀u2 fr ch,Rg S B w0 u2 Bs {R with cl:=R.cl.set i {c with st:=true}}->fr.fn=83->as0 ch->Leaves Tryz.prog fr u2 (.panicked ch)->Z (G fr cs) u2)->Z (Go.Conc.served me (.bool false)) u
theorem fy0 {f:FuncId} {fn:Func} {n:Nat} {a:Act} {e:Env} {todo:List Item} {ch:List PanicEntry} {w:World} (hf:Tryz.prog.funcs[f]? =some fn) (ha:G9 n a e):Leaves Tryz.prog {(base f).at a todo with mode:=.panicking ch} w (.panicked ch) :=
 ⟨rfl,ha.defers,by simp[Frame.catches,Frame.at,base,hf]⟩
theorem Xi0:Tryz.prog.built 197 []=some #[]:=by kernel_rfl
theorem S5 {l:List CB} {i:Nat} {c c':CB} (h:l[i]? =some c):(l.set i c')[i]? =some c':=by
 have:=(List.getElem?_eq_some_iff.1 h).1;simp[this]
theorem Ke0 {S:Nat->Prop} {B:Nat} {w0 w:World} {Bs:Nat} {R:Rn} {i:Nat} {c1 c2 c3 c4:CB} (h:Rg S B w0 w Bs {R with cl:=(((R.cl.set i c1).set i c2).set i c3).set i c4}):Rg S B w0 w Bs {R with cl:=R.cl.set i c4}:=by
 simpa using h
set_option maxRecDepth 20000 in
theorem step_fin {Post:Value->World->Prop} {X:Gh} {g:Nat} {S:Nat->Prop} {B:Nat} {w0:World} {Bs:Nat} {R:Rn} {w:World} {i:Nat} {c:CB} {s:Stp} {rf df:Value} {cs:List Frame} {z0:Value} {me0:Goroutine}
  (hg:Rg S B w0 w Bs R) (hc:R.cl[i]? =some c) (ch1:c.st=false) (hrf:rf.cells=#[rf]/\rf.oneCell'=true) (hdf:df.cells=#[df]/\df.oneCell'=true)
  (G8:g≠0) (hX0:X.G1 0=some ⟨R.yb,z0,me0⟩) (J8:X.dn=0) (S2:X.stay g=[(⟨c.cb,2,none⟩,.chan (some c.rc))]) (hsh:X.I7 c.rc/\∀i s2,i≠0->X.G1 i=some s2->s2.ch≠c.rc)
  (E7:∀w' me,Rg S B w0 w' Bs {R with cl:=R.cl.set i {c with sp:=s,rf:=rf,df:=df,wt:=true}}->le0 cs c.cb df me->Fin Tryz.prog Post (X.pass g 0 (some ⟨c.rc,.bool false,me⟩)) 0 (Go.Conc.served me0 (.i (i:Int))) w') :
  Fin Tryz.prog Post X g (G (Frame.enter Tryz.prog 83 #[.p c.cb,io0 s,rf,df] .normal) cs) w:=by
 letI:Ctx Tryz.prog:=V1 Tryz.prog (g==0);rw[enter_at _ Tryz.func83 rfl];refine(?_:ZA (Fin Tryz.prog Post X g) 63 (base 83) cs (Vc.Q6 #[.p c.cb,io0 s,rf,df]) [.code (Tryz.f83.body.getD .skip)] w) _ (L5 _ _ rfl);have hZ:Ctx.Zs Tryz.prog (Fin Tryz.prog Post X g):=V3;have hb:=Z0 83;refine U6 ?_;refine L.box (cs:=#[.i s.kind,.i s.obj,.i s.num]) rfl rfl (fun w b5 F5=>?_);have hg:=hg.E0 F5.below;have D3:=F5.blk;refine U17 ?_;refine U6 ?_;refine U183 ?_;refine U125 ?_;refine U6 ?_;refine U57 ?_;refine L.va (F0 rfl Tryz.underlying4 rfl ((hg.m.blk i c hc).A0 10 (v:=.bool c.st) rfl)) ?_;refine U2 ?_;refine ZA.v5 hZ (rb ch1) ?_;refine ZA.skip hZ ?_;refine U6 ?_;refine U284 ?_;refine U284 ?_;refine L.va (G0 (cs:=[.i s.kind,.i s.obj,.i s.num]) rfl Tryz.underlying47 rfl sz0 rfl (D3.J1 rfl)) ?_;refine U300 ?_;refine L.va (u1 rfl) ?_;refine L.va (O0 rfl Tryz.underlying149 rfl sz0 (by decide)) ?_;refine L.stC (i:=i) (o:=3) (vs:=[.i s.kind,.i s.obj,.i s.num]) hg {c with sp:=s} hc rfl rfl rfl rfl sz0 rfl rfl (by decide) rfl (fun w hg o3=>?_)
 try clear o3
 refine L.va (u1 rfl) ?_;refine L.va (O0 rfl Tryz.underlying149 rfl Pw0 (by decide)) ?_;refine L.stC (i:=i) (o:=6) (vs:=[rf]) hg {{c with sp:=s} with rf:=rf} (S5 hc) rfl rfl rfl (congrArg Array.toList hrf.1) Pw0 rfl (by simp[hrf.2]) (by decide) rfl (fun w hg o3=>?_)
 try clear o3
 refine L.va (u1 rfl) ?_;refine L.va (O0 rfl Tryz.underlying149 rfl sz1 (by decide)) ?_;refine L.stC (i:=i) (o:=7) (vs:=[df]) hg {{{c with sp:=s} with rf:=rf} with df:=df} (S5 (S5 hc)) rfl rfl rfl (congrArg Array.toList hdf.1) sz1 rfl (by simp[hdf.2]) (by decide) rfl (fun w hg o3=>?_)
 try clear o3
 refine U330 ?_;refine L.stC (i:=i) (o:=9) (vs:=[.bool true]) hg {{{{c with sp:=s} with rf:=rf} with df:=df} with wt:=true} (S5 (S5 (S5 hc))) rfl rfl rfl rfl sz4 rfl rfl (by decide) rfl (fun w hg o3=>?_)
 try clear o3
 refine U17 ?_;refine ZA.fr0 hZ hb 11 (fun w'=>Below w.heap.size w w') (by kernel_rfl) (by kernel_rfl) (by kernel_rfl) (by kernel_rfl) (Below.refl w.heap.size w).drew ?_;refine U265 ?_;refine D.va (fun w' u3=>(O0 rfl Tryz.underlying149 rfl Es0 (by decide))) ?_;refine D.va (fun w' u3=>(F0 rfl Tryz.underlying146 rfl (((hg.m.blk i _ (S5 (S5 (S5 (S5 hc))))).E0 u3).A0 1 (v:=.p R.rb) rfl))) ?_;refine D.va (fun w' u3=>(u1 rfl)) ?_;refine U149 ?_;refine U265 ?_;refine D.va (fun w' u3=>(O0 rfl Tryz.underlying149 rfl sz3 (by decide))) ?_;refine D.va (fun w' u3=>(F0 rfl Tryz.underlying3 rfl (((hg.m.blk i _ (S5 (S5 (S5 (S5 hc))))).E0 u3).A0 0 (v:=.i (i:Int)) rfl))) ?_;refine U139 ?_;intro w I1 hg;clear I1;refine ZA.give (i:=11) (rest:=[]) (s:=⟨R.yb,z0,me0⟩) (st:=[(⟨c.cb,2,none⟩,.chan (some c.rc))]) (K:=fun s=>s.ch=c.rc/\s.z= .bool false/\le0 cs c.cb df s.me) (ft:=60) hb rfl rfl rfl hX0 G8.symm J8 S2 ?_ ?_ ?_
 ·have ci1:(g==0)=false:=by simpa using G8
  rw[ci1];have hY:=td0 (P:=Tryz.prog) (main:=false) (l:=[((⟨c.cb,2,none⟩:Addr),Value.chan (some c.rc))]) (K:=fun s=>s.ch=c.rc/\s.z= .bool false/\le0 cs c.cb df s.me);refine At.k3 hY ?_;refine At.seq hY ?_;refine At.seq hY ?_;refine At.region hY ?_;refine I0.val hY hb rfl (v:=.p c.cb) (J0 rfl) ?_;refine I0.val hY hb rfl (I3 rfl) ?_;refine I0.val hY hb rfl (ky0 rfl Tryz.underlying149 rfl Nf0 (by decide)) ?_;refine I0.stay (v:=.chan (some c.rc)) hb rfl (by simp) rfl Tryz.underlying147 rfl ?_;refine I0.G1 (E:=4) (z:=.bool false) hb Tryz.underlying147 zr4 rfl (fun me hs=>⟨rfl,rfl,⟨?_,?_⟩⟩) rfl
  ·intro C0 Z hZ w K hdo hK;refine hs.go ?_;letI:Ctx Tryz.prog:=C0;refine ZA.more hZ hb 5 rfl ?_;show L _ _ _ _ _ _ _;refine U306 ?_;refine U282 ?_;refine U125 ?_;rcases hdo with⟨h1,h2⟩|⟨f,caps,⟨h1,fn,hf,hbd,hnm⟩,Z4⟩
   all_goals subst h1
   ·refine ZA.W hZ hb ?_;refine U111 ?_;refine L.va (I9 (v:=.nilFunc) (b:=false) rfl (.inl ⟨rfl,rfl⟩) rfl Tryz.underlying1 ⟨_,_,_,rfl⟩) ?_;refine U186 ?_;refine ZA.skip hZ ?_;exact U450
   ·refine ZA.W hZ hb ?_;refine U111 ?_;refine L.va (I9 (v:=.func (.func f) #[] caps) (b:=true) rfl (.inr ⟨_,_,_,rfl,rfl⟩) rfl Tryz.underlying1 ⟨_,_,_,rfl⟩) ?_;refine U200 ?_;refine U100 ?_;refine L.va cp0 ?_;refine L.call (cv0 rfl hf hbd hnm) Z4 ?_;rintro _ w h2;refine U2 ?_;exact U450
  ·intro Z hZ w S B w0 Bs R i c2 hg hc hcb hK;refine hs.go ?_;letI:Ctx Tryz.prog:=V1 Tryz.prog false
   skip
   refine ZA.more hZ hb 5 rfl ?_;show L _ _ _ _ _ _ _;refine U306 ?_;refine U282 ?_;refine U200 ?_;refine U6 ?_;refine U57 ?_;refine L.stC (i:=i) (o:=10) (vs:=[.bool true]) hg {c2 with st:=true} hc rfl (by rw[hcb];rfl) rfl rfl sz4 rfl rfl (by decide) rfl (fun w hg o3=>?_)
   try clear o3
   refine U2 ?_;refine ZA.panics hZ hb ?_;refine W.region rfl ?_;refine L.va (W0 (parts:=[]) rfl Xi0) ?_;refine L.va (B8 (v:=.agg #[]) rfl Tryz.underlying197 rfl) ?_;refine L.Fg0 rfl ⟨_,rfl,fun a todo ha=>?_⟩;exact hK _ _ _ hg rfl ⟨_,_,rfl,rfl⟩ (fy0 Tryz.func83 ha)
 ·rintro s2 ⟨h1,_,_⟩;rw[h1];exact hsh
 ·rintro⟨ch,z,me⟩ ⟨h1,h2,h3⟩;cases h1;cases h2;exact E7 _ me (Ke0 hg) h3
section
attribute [local irreducible] KK
abbrev bm0 (a b:Nat):Array Value:=#[.p a,.p b]
theorem te0 (gr:I4) {n:Nat} {a:Act} {todo:List Item} (hd:a.defers=[dcall 68 #[.pointer (some ⟨gr.blk,gr.off,none⟩)]]):∃m,Lt Tryz.prog gr m 0 (G {(baseD 106).at a todo with mode:=.returning} [Z5 Tryz.prog]):=by
 have hq:QuitsD Tryz.prog 2 0 (G {(baseD 106).at ⟨a.tmps,[]⟩ todo with mode:=.returning} [Z5 Tryz.prog]):=by
  refine .inr ⟨rfl,_,#[],fun e he=>by simp at he,fun w=>qg0 (fn:=Tryz.f106) rfl rfl Tryz.func106 (results_none rfl _ _ w) (events_results_none rfl _ _),?_⟩;refine .inr ⟨rfl,_,#[],fun e he=>by simp at he,fun w=>qh0,?_⟩;exact⟨rfl,rfl⟩
 obtain⟨m,hm⟩:=Kb0 gr (c:={(baseD 106).at ⟨a.tmps,[]⟩ todo with mode:=.returning}) rfl hq;refine⟨m+1,?_⟩;exact(C3 Tryz.prog gr).c rfl rfl (fun w=>cz0 (f:=68) (fn:=Tryz.f68) (caps:=#[]) (args:=#[.pointer (some ⟨gr.blk,gr.off,none⟩)]) (by simp) hd Tryz.func68 Wi0 rfl) hm
theorem Xj0:Tryz.prog.built 197 []=some #[]:=by kernel_rfl
set_option maxRecDepth 20000 in
theorem xi0 {Z:Goroutine->World->Prop} (hZ:@Ctx.Zs Tryz.prog (V1 Tryz.prog false) Z) {rb0 i:Nat} {c:CB} {w0:World} (hC:O1 w0 c.cb (c.cells rb0 i) 149 (0,3)) (S2:c.st=true) {s:Stp} {rf df:Value} {cs:List Frame}
  (hK:∀w' fr ch,Below w0.heap.size w0 w'->fr.fn=83->as0 ch->Leaves Tryz.prog fr w' (.panicked ch)->Z (G fr cs) w'):Z (G (Frame.enter Tryz.prog 83 #[.p c.cb,io0 s,rf,df] .normal) cs) w0:=by
 letI:Ctx Tryz.prog:=V1 Tryz.prog false;rw[enter_at _ Tryz.func83 rfl];refine(?_:ZA Z 63 (base 83) cs (Vc.Q6 #[.p c.cb,io0 s,rf,df]) [.code (Tryz.f83.body.getD .skip)] w0) _ (L5 _ _ rfl);have hb:=Z0 83;have hb0:Below w0.heap.size w0 w0:=Below.refl _ _;refine U6 ?_;refine L.box (cs:=#[.i s.kind,.i s.obj,.i s.num]) rfl rfl (fun w b5 F5=>?_);have hb0:=N0 hb0 F5.below;have hC:=hC.E0 F5.below;refine U17 ?_;refine U6 ?_;refine U183 ?_;refine U125 ?_;refine U6 ?_;refine U57 ?_;refine L.va (F0 rfl Tryz.underlying4 rfl (hC.A0 10 (v:=.bool c.st) rfl)) ?_;refine U2 ?_;refine ZA.J4 hZ (rb S2) ?_;refine ZA.panics hZ hb ?_;refine W.region rfl ?_;refine L.va (W0 (parts:=[]) rfl Xj0) ?_;refine L.va (B8 (v:=.agg #[]) rfl Tryz.underlying197 rfl) ?_;refine L.Fg0 rfl ⟨_,rfl,fun a todo ha=>?_⟩;exact hK _ _ _ hb0 rfl ⟨_,_,rfl,rfl⟩ (fy0 Tryz.func83 ha)
set_option maxRecDepth 20000 in
theorem Fi0 {Post:Value->World->Prop} {X:Gh} {g:Nat} {S:Nat->Prop} {B:Nat} {w0:World} {Bs:Nat} {R:Rn} {w:World} {i:Nat} {c:CB} {z0:Value} {me0:Goroutine} {S6 y6:Nat} {en:Bool} {a45:Act} {r7:List Item} {md:FrameMode}
  (hg:Rg S B w0 w Bs R) (hc:R.cl[i]? =some c) (S2:c.st=true) (hA:O1 w S6 #[.p c.cb] 91 (0,0)) (hE:O1 w y6 #[.bool en] 4 (0,0)) (G8:0<g) (hX0:X.G1 0=some ⟨R.yb,z0,me0⟩) (J8:X.dn=0) (lf0:X.L2=some ⟨R.rb,8⟩)
  (hmd:md= .returning\/∃v A4,md= .panicking ({v,recovered:=false} :: A4)/\A4.dropWhile (!·.goexit)=[]) (tf0:a45.defers=[dcall 68 #[.pointer (some ⟨R.rb,8,none⟩)]])
  (E7:∀w',Rg S B w0 w' Bs {R with ends:=R.ends.set i 0,cl:=R.cl.set i {c with wt:=false}}->Fin Tryz.prog Post (X.pass g 0 none) 0 (Go.Conc.served me0 (.i (i:Int))) w') :
  Fin Tryz.prog Post X g (G ((baseD 113).at {tmps:=((#[]:Array Value)++bm0 S6 y6)++Array.replicate (Tryz.f113.ntmps-((#[]:Array Value)++bm0 S6 y6).size) undef,defers:=[]} [.code (Tryz.f113.body.getD .skip)]) [{(baseD 106).at a45 r7 with mode:=md},Z5 Tryz.prog]) w:=by
 letI:Ctx Tryz.prog:=V1 Tryz.prog (g==0);refine(?_:ZA (Fin Tryz.prog Post X g) 63 (baseD 113) [{(baseD 106).at a45 r7 with mode:=md},Z5 Tryz.prog] (Vc.Q6 ((#[]:Array Value)++bm0 S6 y6)) [.code (Tryz.f113.body.getD .skip)] w) _ (L5 _ _ rfl);refine U295 ?_;intro hZ hb;have hi:i<R.m:=Nat.lt_of_lt_of_le (List.getElem?_eq_some_iff.1 hc).1 hg.m.lcl;refine ZA.seq hZ ?_;refine U279 ?_;intro c45 v hsv;refine U312 ?_;refine U90 ?_;refine U248 ?_;refine U2 ?_;refine ZA.J4 hZ (rb S2) ?_;refine U140 ?_;intro hR hC;refine U243 ?_;refine U252 ?_;refine U234 ?_;refine U157 ?_;refine U238 ?_;refine D.nil (fun w I1=>?_);have hA:=hA.E0 I1;have hE:=hE.E0 I1;have hg:=hg.E0 I1;have hR:=hR.E0 I1;have hC:=hC.E0 I1;clear I1;have neA:=O1.ne hA hg.m.ends (by decide);refine U283 ?_;intro neE w hg o3;have hA:=hA.other o3 neA;clear neA neE o3;have hc:(Rn.cl {R with ends:=R.ends.set i 0})[i]? =some c:=hc;refine L.nil ?_
 try clear hR
 try clear hC
 refine U310 ?_;refine U90 ?_;refine U244 ?_;intro neA w hg o3;have hA:=hA.other o3 neA;refine U242 ?_;refine U155 ?_;refine U240 ?_;refine U149 ?_;refine U245 ?_;refine U139 ?_;intro w I1 hg;clear I1;obtain⟨m,hm⟩:=te0 ⟨R.rb,8⟩ (n:=0) (a:=a45) (todo:=r7) tf0;refine ZA.ld0 (i:=11) (rest:=[]) (s:=⟨R.yb,z0,me0⟩) (gr:=⟨R.rb,8⟩) (ft:=m+3) hb rfl rfl rfl hX0 (Nat.ne_of_lt G8) J8 G8 lf0 ?_ ?_
 ·refine At.k3 (C3 _ _) ?_;refine At.done (C3 _ _) (fun _=>?_);exact AtR.saved (C3 _ _) hsv rfl Tryz.func113 rfl hm
 ·exact E7 _ hg
set_option maxRecDepth 20000 in
theorem Fj0 {Post:Value->World->Prop} {X:Gh} {g:Nat} {S:Nat->Prop} {B:Nat} {w0:World} {Bs:Nat} {R:Rn} {w:World} {i:Nat} {c:CB} {z0:Value} {me0:Goroutine} {S6 y6:Nat} {en:Bool} {a45:Act} {r7:List Item} {md:FrameMode}
  (hg:Rg S B w0 w Bs R) (hc:R.cl[i]? =some c) (S2:c.st=false) (hA:O1 w S6 #[.p c.cb] 91 (0,0)) (hE:O1 w y6 #[.bool true] 4 (0,0)) (G8:0<g) (hX0:X.G1 0=some ⟨R.yb,z0,me0⟩) (J8:X.dn=0) (lf0:X.L2=some ⟨R.rb,8⟩)
  (hmd:md= .returning\/∃v A4,md= .panicking ({v,recovered:=false} :: A4)/\A4.dropWhile (!·.goexit)=[]) (tf0:a45.defers=[dcall 68 #[.pointer (some ⟨R.rb,8,none⟩)]])
  (E7:∀w',Rg S B w0 w' Bs {R with ends:=R.ends.set i 1,cl:=R.cl.set i {c with wt:=false}}->Fin Tryz.prog Post (X.pass g 0 none) 0 (Go.Conc.served me0 (.i (i:Int))) w') :
  Fin Tryz.prog Post X g (G ((baseD 113).at {tmps:=((#[]:Array Value)++bm0 S6 y6)++Array.replicate (Tryz.f113.ntmps-((#[]:Array Value)++bm0 S6 y6).size) undef,defers:=[]} [.code (Tryz.f113.body.getD .skip)]) [{(baseD 106).at a45 r7 with mode:=md},Z5 Tryz.prog]) w:=by
 letI:Ctx Tryz.prog:=V1 Tryz.prog (g==0);refine(?_:ZA (Fin Tryz.prog Post X g) 63 (baseD 113) [{(baseD 106).at a45 r7 with mode:=md},Z5 Tryz.prog] (Vc.Q6 ((#[]:Array Value)++bm0 S6 y6)) [.code (Tryz.f113.body.getD .skip)] w) _ (L5 _ _ rfl);refine U295 ?_;intro hZ hb;have hi:i<R.m:=Nat.lt_of_lt_of_le (List.getElem?_eq_some_iff.1 hc).1 hg.m.lcl;refine ZA.seq hZ ?_;refine U279 ?_;intro c45 v hsv;refine U312 ?_;refine U90 ?_;refine U248 ?_;refine U2 ?_;refine ZA.v5 hZ (rb S2) ?_;refine U6 ?_;refine L.va (F0 rfl Tryz.underlying4 rfl (hE.A0 0 (v:=.bool true) rfl)) ?_;refine L.va (fi0 rfl) ?_;refine U200 ?_;refine U140 ?_;intro hR hC;refine U243 ?_;refine U252 ?_;refine U234 ?_;refine U157 ?_;refine U238 ?_;refine D.nil (fun w I1=>?_);have hA:=hA.E0 I1;have hE:=hE.E0 I1;have hg:=hg.E0 I1;have hR:=hR.E0 I1;have hC:=hC.E0 I1;clear I1;have neA:=O1.ne hA hg.m.ends (by decide);refine U283 ?_;intro neE w hg o3;have hA:=hA.other o3 neA;clear neA neE o3;have hc:(Rn.cl {R with ends:=R.ends.set i 1})[i]? =some c:=hc;refine L.nil ?_
 try clear hR
 try clear hC
 refine U310 ?_;refine U90 ?_;refine U244 ?_;intro neA w hg o3;have hA:=hA.other o3 neA;refine U242 ?_;refine U155 ?_;refine U240 ?_;refine U149 ?_;refine U245 ?_;refine U139 ?_;intro w I1 hg;clear I1;obtain⟨m,hm⟩:=te0 ⟨R.rb,8⟩ (n:=0) (a:=a45) (todo:=r7) tf0;refine ZA.ld0 (i:=11) (rest:=[]) (s:=⟨R.yb,z0,me0⟩) (gr:=⟨R.rb,8⟩) (ft:=m+3) hb rfl rfl rfl hX0 (Nat.ne_of_lt G8) J8 G8 lf0 ?_ ?_
 ·refine At.k3 (C3 _ _) ?_;refine At.done (C3 _ _) (fun _=>?_);exact AtR.saved (C3 _ _) hsv rfl Tryz.func113 rfl hm
 ·exact E7 _ hg
set_option maxRecDepth 20000 in
theorem Fk0 {Post:Value->World->Prop} {X:Gh} {g:Nat} {S:Nat->Prop} {B:Nat} {w0:World} {Bs:Nat} {R:Rn} {w:World} {i:Nat} {c:CB} {z0:Value} {me0:Goroutine} {S6 y6:Nat} {en:Bool} {a45:Act} {r7:List Item} {md:FrameMode}
  (hg:Rg S B w0 w Bs R) (hc:R.cl[i]? =some c) (S2:c.st=false) (hA:O1 w S6 #[.p c.cb] 91 (0,0)) (hE:O1 w y6 #[.bool false] 4 (0,0)) (G8:0<g) (hX0:X.G1 0=some ⟨R.yb,z0,me0⟩) (J8:X.dn=0) (lf0:X.L2=some ⟨R.rb,8⟩)
  (hmd:md= .returning\/∃v A4,md= .panicking ({v,recovered:=false} :: A4)/\A4.dropWhile (!·.goexit)=[]) (tf0:a45.defers=[dcall 68 #[.pointer (some ⟨R.rb,8,none⟩)]])
  (E7:∀w',Rg S B w0 w' Bs {R with ends:=R.ends.set i 2,cl:=R.cl.set i {c with wt:=false}}->Fin Tryz.prog Post (X.pass g 0 none) 0 (Go.Conc.served me0 (.i (i:Int))) w') :
  Fin Tryz.prog Post X g (G ((baseD 113).at {tmps:=((#[]:Array Value)++bm0 S6 y6)++Array.replicate (Tryz.f113.ntmps-((#[]:Array Value)++bm0 S6 y6).size) undef,defers:=[]} [.code (Tryz.f113.body.getD .skip)]) [{(baseD 106).at a45 r7 with mode:=md},Z5 Tryz.prog]) w:=by
 letI:Ctx Tryz.prog:=V1 Tryz.prog (g==0);refine(?_:ZA (Fin Tryz.prog Post X g) 63 (baseD 113) [{(baseD 106).at a45 r7 with mode:=md},Z5 Tryz.prog] (Vc.Q6 ((#[]:Array Value)++bm0 S6 y6)) [.code (Tryz.f113.body.getD .skip)] w) _ (L5 _ _ rfl);refine U295 ?_;intro hZ hb;have hi:i<R.m:=Nat.lt_of_lt_of_le (List.getElem?_eq_some_iff.1 hc).1 hg.m.lcl;refine ZA.seq hZ ?_;refine U279 ?_;intro c45 v hsv;refine U312 ?_;refine U90 ?_;refine U248 ?_;refine U2 ?_;refine ZA.v5 hZ (rb S2) ?_;refine U6 ?_;refine L.va (F0 rfl Tryz.underlying4 rfl (hE.A0 0 (v:=.bool false) rfl)) ?_;refine L.va (fi0 rfl) ?_;refine U186 ?_;refine U140 ?_;intro hR hC;refine U243 ?_;refine U252 ?_;refine U234 ?_;refine U157 ?_;refine U238 ?_;refine D.nil (fun w I1=>?_);have hA:=hA.E0 I1;have hE:=hE.E0 I1;have hg:=hg.E0 I1;have hR:=hR.E0 I1;have hC:=hC.E0 I1;clear I1;have neA:=O1.ne hA hg.m.ends (by decide);refine U283 ?_;intro neE w hg o3;have hA:=hA.other o3 neA;clear neA neE o3;have hc:(Rn.cl {R with ends:=R.ends.set i 2})[i]? =some c:=hc;refine L.nil ?_
 try clear hR
 try clear hC
 refine U310 ?_;refine U90 ?_;refine U244 ?_;intro neA w hg o3;have hA:=hA.other o3 neA;refine U242 ?_;refine U155 ?_;refine U240 ?_;refine U149 ?_;refine U245 ?_;refine U139 ?_;intro w I1 hg;clear I1;obtain⟨m,hm⟩:=te0 ⟨R.rb,8⟩ (n:=0) (a:=a45) (todo:=r7) tf0;refine ZA.ld0 (i:=11) (rest:=[]) (s:=⟨R.yb,z0,me0⟩) (gr:=⟨R.rb,8⟩) (ft:=m+3) hb rfl rfl rfl hX0 (Nat.ne_of_lt G8) J8 G8 lf0 ?_ ?_
 ·refine At.k3 (C3 _ _) ?_;refine At.done (C3 _ _) (fun _=>?_);exact AtR.saved (C3 _ _) hsv rfl Tryz.func113 rfl hm
 ·exact E7 _ hg
end
section
attribute [local irreducible] KK
theorem Rg.side {S:Nat->Prop} {B:Nat} {w0 w:World} {Bs:Nat} {R:Rn} (h:Rg S B w0 w Bs R) {b:Nat} {cs O5:Array Value} {T:TypeId} {f:Nat×Nat} (hb:O1 w b cs T f) (hT:T≠153/\T≠91/\T≠49/\T≠98/\T≠3/\T≠47/\T≠149) (hS:S b\/B <=b):Rg S B w0 (P1 w b O5 T f) Bs R:=by
 have o3:=o2 w b O5 T f;have hr:∀T':TypeId,T'≠T->∀r,some b=some r->∃O5 T'' f',O1 w r O5 T'' f'/\T'≠T'':=fun T' hT r e=>by cases e;exact⟨_,_,_,hb,hT⟩
 have hm:H4 (P1 w b O5 T f) Bs R:=⟨J3 h.m.run o3 (hr _ (Ne.symm hT.1)),O4 h.m.cls o3 (hr _ (Ne.symm hT.2.1)),O4 h.m.evs o3 (hr _ (Ne.symm hT.2.2.1)),O4 h.m.W2 o3 (hr _ (Ne.symm hT.2.2.2.1)),J3 h.m.ends o3 (hr _ (Ne.symm hT.2.2.2.2.1)),J3 h.m.W7 o3 (hr _ (Ne.symm hT.2.2.2.2.2.1)),h.m.dy0,h.m.ji0,h.m.lcl,fun i c hc=>J3 (h.m.blk i c hc) o3 (hr _ (Ne.symm hT.2.2.2.2.2.2))⟩
 exact⟨hm,h.md.grown o3 h.le (fun r e=>by cases e;exact hS),h.fp,by rw[w5];exact h.le⟩
def Xk0 (c:CB) (x:Int):Ending->Prop
 | .returned _=>(c.st=true/\x=0)\/(c.st=false/\x=1)
 | .panicked ch=>as0 ch/\((c.st=true/\x=0)\/(c.st=false/\x=2))
 | .outgrown=>False
structure Fl0 (top:List Frame) (S6 y6 rb cb:Nat):Prop where
 leave:∀{Post:Value->World->Prop} {X:Gh} {g:Nat} {S:Nat->Prop} {B:Nat} {w0:World} {Bs:Nat} {R:Rn} {w:World} {i:Nat} {c:CB} {z0:Value} {me0:Goroutine} {fr:Frame} {e:Ending} (x:Int),Rg S B w0 w Bs R->R.rb=rb->R.cl[i]? =some c->c.cb=cb ->
  O1 w S6 #[.p cb] 91 (0,0)->O1 w y6 #[.bool false] 4 (0,0)->(S y6\/B <=y6)->Xk0 c x e->0<g->X.G1 0=some ⟨R.yb,z0,me0⟩->X.dn=0->X.L2=some ⟨rb,8⟩ ->
  (∀w',Rg S B w0 w' Bs {R with ends:=R.ends.set i x,cl:=R.cl.set i {c with wt:=false}}->(∃en,O1 w' y6 #[.bool en] 4 (0,0))->Fin Tryz.prog Post (X.pass g 0 none) 0 (Go.Conc.served me0 (.i (i:Int))) w') ->
  Leaves Tryz.prog fr w e->Fin Tryz.prog Post X g (G fr top) w
theorem H4.Nu0 {w:World} {Bs:Nat} {R:Rn} (h:H4 w Bs R) {b:Nat} {cs:Array Value} {T:TypeId} {f:Nat×Nat} (hb:O1 w b cs T f) (hT:T≠153/\T≠91/\T≠49/\T≠98/\T≠3/\T≠47/\T≠149):¬R.fp b:=by
 intro hk;have own:∀{E:TypeId} {s n c:Nat} {a:Option Addr} {xs:List Value},Own w Bs E s a n c xs->a≠none->b=ab a->T≠E->False:=fun ho ha e r3=>by
  obtain⟨cur,hB,_⟩:=ho.row ha;exact O1.ne (f:=(0,0)) hB hb (Ne.symm r3) e.symm
 rcases hk with rfl|rfl|rfl|⟨ha,e⟩|⟨ha,e⟩|⟨ha,e⟩|⟨i,c,hc,rfl⟩
 ·exact O1.ne hb h.run hT.1 rfl
 ·exact O1.ne hb h.ends hT.2.2.2.2.1 rfl
 ·exact O1.ne hb h.W7 hT.2.2.2.2.2.1 rfl
 ·exact own h.cls ha e hT.2.1
 ·exact own h.evs ha e hT.2.2.1
 ·exact own h.W2 ha e hT.2.2.2.1
 ·exact O1.ne hb (h.blk i c hc) hT.2.2.2.2.2.2 rfl
theorem Rg.then {S:Nat->Prop} {B:Nat} {w0 w w':World} {Bs:Nat} {R R':Rn} (h:Rg S B w0 w Bs R) (h':Rg R.fp w.heap.size w w' Bs R'):Rg S B w0 w' Bs R' :=
 ⟨h'.m,⟨h'.md.os.trans h.md.os,h'.md.tape.trans h.md.tape,h'.md.output.trans h.md.output,Nat.le_trans h.md.size h'.md.size,fun k hk hs=>(h'.md.block k (Nat.lt_of_lt_of_le hk h.le) fun z=>(h.fp k z).elim hs (Nat.not_le_of_lt hk)).trans (h.md.block k hk hs)⟩,fun k hk=>by
  rcases h'.fp k hk with z|z
  ·exact h.fp k z
  ·exact .inr (Nat.le_trans h.le z),Nat.le_trans h.le h'.md.size⟩
theorem Fm0 {Post:Value->World->Prop} {X:Gh} {g:Nat} {S:Nat->Prop} {B:Nat} {w0:World} {Bs:Nat} {R:Rn} {w:World} {i:Nat} {c:CB} {z0:Value} {me0:Goroutine} {S6 y6:Nat} {en:Bool} {a45:Act} {r7:List Item} {md:FrameMode} {x:Int}
  (hg:Rg S B w0 w Bs R) (hc:R.cl[i]? =some c) (hx:(c.st=true/\x=0)\/(c.st=false/\en=true/\x=1)\/(c.st=false/\en=false/\x=2)) (hA:O1 w S6 #[.p c.cb] 91 (0,0)) (hE:O1 w y6 #[.bool en] 4 (0,0)) (G8:0<g) (hX0:X.G1 0=some ⟨R.yb,z0,me0⟩) (J8:X.dn=0) (lf0:X.L2=some ⟨R.rb,8⟩)
  (hmd:md= .returning\/∃v A4,md= .panicking ({v,recovered:=false} :: A4)/\A4.dropWhile (!·.goexit)=[]) (tf0:a45.defers={target:=.fn (.func 113) (bm0 S6 y6),args:=#[]} :: [dcall 68 #[.pointer (some ⟨R.rb,8,none⟩)]])
  (E7:∀w',Rg S B w0 w' Bs {R with ends:=R.ends.set i x,cl:=R.cl.set i {c with wt:=false}}->Fin Tryz.prog Post (X.pass g 0 none) 0 (Go.Conc.served me0 (.i (i:Int))) w') :
  Fin Tryz.prog Post X g (G {(baseD 106).at a45 r7 with mode:=md} [Z5 Tryz.prog]) w:=by
 refine(am0 Tryz.prog Post X g).ctl rfl rfl (fun w=>cz0 (f:=113) (fn:=Tryz.f113) (caps:=bm0 S6 y6) (args:=#[]) (ds:=[dcall 68 #[.pointer (some ⟨R.rb,8,none⟩)]]) (by rcases hmd with rfl|⟨_,_,rfl,_⟩ <;> simp) tf0 Tryz.func113 Wv0 rfl) ?_;rcases hx with⟨h1,rfl⟩|⟨h1,rfl,rfl⟩|⟨h1,rfl,rfl⟩
 ·exact Fi0 hg hc h1 hA hE G8 hX0 J8 lf0 hmd rfl E7
 ·exact Fj0 (en:=true) hg hc h1 hA hE G8 hX0 J8 lf0 hmd rfl E7
 ·exact Fk0 (en:=false) hg hc h1 hA hE G8 hX0 J8 lf0 hmd rfl E7
theorem ql0 {Post:Value->World->Prop} {X:Gh} {g:Nat} {S:Nat->Prop} {B:Nat} {w0:World} {Bs:Nat} {R:Rn} {w:World} {i:Nat} {c:CB} {z0:Value} {me0:Goroutine} {S6 y6:Nat} {en:Bool} {a45:Act} {r7:List Item} {md:FrameMode} {x:Int}
  (hg:Rg S B w0 w Bs R) (hc:R.cl[i]? =some c) (hx:(c.st=true/\x=0)\/(c.st=false/\en=true/\x=1)\/(c.st=false/\en=false/\x=2)) (hA:O1 w S6 #[.p c.cb] 91 (0,0)) (hE:O1 w y6 #[.bool en] 4 (0,0)) (G8:0<g) (hX0:X.G1 0=some ⟨R.yb,z0,me0⟩) (J8:X.dn=0) (lf0:X.L2=some ⟨R.rb,8⟩)
  (hmd:md= .returning\/∃v A4,md= .panicking ({v,recovered:=false} :: A4)/\A4.dropWhile (!·.goexit)=[]) (tf0:a45.defers={target:=.fn (.func 113) (bm0 S6 y6),args:=#[]} :: [dcall 68 #[.pointer (some ⟨R.rb,8,none⟩)]])
  (E7:∀w',Rg S B w0 w' Bs {R with ends:=R.ends.set i x,cl:=R.cl.set i {c with wt:=false}}->(∃en,O1 w' y6 #[.bool en] 4 (0,0))->Fin Tryz.prog Post (X.pass g 0 none) 0 (Go.Conc.served me0 (.i (i:Int))) w') :
  Fin Tryz.prog Post X g (G {(baseD 106).at a45 r7 with mode:=md} [Z5 Tryz.prog]) w:=by
 refine Fm0 hg.m.rg hc hx hA hE G8 hX0 J8 lf0 hmd tf0 fun w' z6=>E7 w' (hg.then z6) ⟨en,?_⟩;exact(z6.md.block y6 hE.lt (hg.m.Nu0 hE (by decide))).trans hE
set_option maxRecDepth 20000 in
theorem Fn0 {Post:Value->World->Prop} {X:Gh} {g:Nat} {w:World} {Bs:Nat} {R:Rn} {i:Nat} {c:CB} {f:FuncId} {fn:Func} {caps:Array Value} (hf:Tryz.prog.funcs[f]? =some fn) (hbd:fn.body.isSome=true) (hnm:(fn.name== "runtime.NumGoroutine")=false)
  (hM:H4 w Bs R) (hc:R.cl[i]? =some c)
  (g4:∀w1 top S6 y6,Below w.heap.size w w1->w.heap.size <=S6->w.heap.size <=y6->O1 w1 S6 #[.p c.cb] 91 (0,0)->O1 w1 y6 #[.bool false] 4 (0,0)->Fl0 top S6 y6 R.rb c.cb->Fin Tryz.prog Post X g (G (Frame.enter Tryz.prog f (#[] ++ #[.p c.cb]++caps) .normal) top) w1) :
  Fin Tryz.prog Post X g (born Tryz.prog (dcall 106 #[.p c.cb,.func (.func f) #[] caps])) w:=by
 refine(am0 Tryz.prog Post X g).ctl rfl rfl (fun w=>Bp0 Tryz.func106 Ws0 rfl) ?_;letI:Ctx Tryz.prog:=V1 Tryz.prog (g==0);have hZ:Ctx.Zs Tryz.prog (Fin Tryz.prog Post X g):=V3;have hb:=bkd 106;refine(?_:ZA (Fin Tryz.prog Post X g) 15 (baseD 106) [Z5 Tryz.prog] (Vc.Q6 #[.p c.cb,.func (.func f) #[] caps]) [.code (Tryz.f106.body.getD .skip)] w) _ (L5 _ _ rfl);refine U6 ?_;refine L.box (cs:=#[.p c.cb]) rfl rfl (fun w1 S6 FA=>?_);refine U49 ?_;refine L.alloc (cs:=#[.bool false]) zr4 rfl (fun w2 y6 FE=>?_);refine L.pu 0 [.bool false] #[.bool false] sz4 FE.blk (fun w3 hE o3 n2=>?_);refine U2 ?_;have V4:Below w.heap.size w w1:=FA.below;have lA:w.heap.size <=S6:=by have:=FA.here;omega
 have lE:w.heap.size <=y6:=by have:=FE.here;have:=V4.size;omega
 have hb2:Below w.heap.size w w2:=N0 V4 FE.below;have hb3:Below w.heap.size w w3:=K4 hb2 hb2.size o3 lE;have hA:O1 w3 S6 #[.p c.cb] 91 (0,0):=(m4 (FA.blk.E0 FE.below)).other o3 (O1.ne (m4 (FA.blk.E0 FE.below)) (m4 FE.blk) (by decide));have hM3:=hM.E0 hb3;refine ZA.zd ?_;refine U303 ?_;refine ZD.va hZ hb (i:=0) (rest:=[1,2,3,4,5,6]) rfl rfl (F0 rfl Tryz.underlying91 rfl (hA.A0 0 (v:=.p c.cb) rfl)) ?_;refine ZD.va hZ hb (i:=1) rfl rfl (u1 rfl) ?_;refine ZD.va hZ hb (i:=2) rfl rfl (O0 rfl Tryz.underlying149 rfl Es0 (by decide)) ?_;refine ZD.va hZ hb (i:=3) rfl rfl (F0 rfl Tryz.underlying146 rfl ((hM3.blk i c hc).A0 1 (v:=.p R.rb) rfl)) ?_;refine ZD.va hZ hb (i:=4) rfl rfl (u1 rfl) ?_;refine ZD.va hZ hb (i:=5) rfl rfl (O0 rfl Tryz.underlying153 rfl Nd0 (by decide)) ?_;refine ZD.defer hZ hb (i:=6) (vs:=#[.pointer (some ⟨R.rb,8,none⟩)]) rfl (Wg.X6 (vl:=[.pointer (some ⟨R.rb,8,none⟩)]) rfl) ?_;refine ZD.k3 hZ ?_;refine U303 ?_;refine ZD.va hZ hb (i:=0) (rest:=[1]) rfl rfl (S3 (l:=[.tmp 2,.tmp 4]) (vs:=[.p S6,.p y6]) rfl) ?_;refine ZD.Qn0 hZ hb (i:=1) (caps:=bm0 S6 y6) rfl rfl ?_;refine ZD.k3 hZ ?_;refine U303 ?_;refine ZD.va hZ hb (i:=0) (rest:=[1,2]) rfl rfl (Dm0 rfl) ?_;refine ZD.va hZ hb (i:=1) rfl rfl (F0 rfl Tryz.underlying91 rfl (hA.A0 0 (v:=.p c.cb) rfl)) ?_;refine ZD.call hZ hb (i:=2) rfl (ap0 (first:=#[]) (cap:=caps) (args:=#[.p c.cb]) rfl (Wg.X6 (vl:=[.p c.cb]) rfl) hf hbd hnm) (fun a ha=>?_);refine g4 w3 _ S6 y6 hb3 lA lE hA hE ⟨?_⟩;clear g4 hb3 hb2 V4 hM3 hA hE o3 n2 FA FE;intro Post X g S B w0 Bs R' w i c' z0 me0 fr e x hg hRb hc hcb hA hE hS hx G8 hX0 J8 o3 E7 hl;rw[<- hcb]at hA;have Xl0:X.L2=some ⟨R'.rb,8⟩:=by rw[hRb];exact o3
 letI:Ctx Tryz.prog:=V1 Tryz.prog (g==0);have hZ:Ctx.Zs Tryz.prog (Fin Tryz.prog Post X g):=V3;cases e with
 |outgrown=>exact hx.elim
 |panicked ch=>
  obtain⟨⟨v,A4,rfl,ho⟩,hx⟩:=hx;refine co0 (am0 _ _ _ _) hl ?_;rw[Frame.raise_at];exact ql0 (en:=false) hg hc (by rcases hx with h|h;exact .inl h;exact .inr (.inr ⟨h.1,rfl,h.2⟩)) hA hE G8 hX0 J8 Xl0 (.inr ⟨v,A4,rfl,ho⟩) (by rw[hRb];exact ha.defers) E7
 |returned v=>
  refine D9 (am0 _ _ _ _) hl ?_;have ch0:∀(ops:Array Oper) (k:List Item) (o:Oper),ops[2]? =some o->((baseD 106).at a (.inRegion ops [2]::k)).finish v=(baseD 106).at (a.put o.dst v) (.inRegion ops []::k):=fun ops k o ho=>by rw[Frame.finish_at,ho];rfl
  rw[ch0 _ _ _ rfl];refine(?_:ZD (Fin Tryz.prog Post X g) 15 (baseD 106) [Z5 Tryz.prog] _ _ _ w) _ (ha.put rfl v);refine ZD.k3 hZ ?_;refine ZD.region hZ ?_;refine ZD.st hZ hb (i:=0) (rest:=[]) rfl (jq0 (v:=.bool true) (p:=⟨y6,0,none⟩) (v0:=.bool false) rfl rfl sz4 rfl (hE.A0 0 rfl) (by rw[hE.frozen];rfl)) ?_;rw[cd0 hE];refine ZD.k3 hZ ?_;intro a5 ha5;refine(am0 Tryz.prog Post X g).ctl rfl rfl (fun _=>stepG_end) ?_;exact ql0 (en:=true) (hg.side hE (by decide) hS) hc (by rcases hx with h|h;exact .inl h;exact .inr (.inl ⟨h.1,rfl,h.2⟩)) (hA.other (o2 _ _ _ _ _) (O1.ne hA hE (by decide))) (T4 hE _ _ _) G8 hX0 J8 Xl0 (.inl rfl) (by rw[hRb];exact ha5.defers) E7
end
section
attribute [local irreducible] KK
def xj0 (cs:List Frame) (me:Goroutine):Prop:=∀Z,@Ctx.Zs Tryz.prog (V1 Tryz.prog true) Z->∀(u:World) (v:Value),(∀fr,fr.fn=78->Leaves Tryz.prog fr u (.returned (.tuple #[]))->Z (G fr cs) u)->Z (Go.Conc.served me v) u
theorem Xm0 (x0:Int) (x1:Int) (x2:Int) (x3:Int):Tryz.prog.built 49 [(0,.i x0),(1,.agg #[.i x1,.i x2,.i x3])]=some #[.i x0,.i x1,.i x2,.i x3]:=by kernel_rfl
set_option maxRecDepth 20000 in
theorem Fo0 {Post:Value->World->Prop} {X:Gh} {g:Nat} {S:Nat->Prop} {B:Nat} {w0:World} {Bs:Nat} {R:Rn} {w:World} {i:Nat} {c:CB} {cs:List Frame} {z1:Value} {me1:Goroutine}
  (hg:Rg S B w0 w Bs R) (hBs:Bs <=w.heap.size) (hc:R.cl[i]? =some c) (hrm:R.evs.length <=1000000) (hpm:c.W1 <=1000000) (hum:R.used <=1000000)
  (G8:g≠0) (hX0:X.G1 g=some ⟨c.rc,z1,me1⟩) (J8:X.dn=0) (S2:X.stay 0=[(⟨R.rb,7,none⟩,.chan (some R.yb))]) (hsh:X.I7 R.yb/\∀i s2,i≠g->X.G1 i=some s2->s2.ch≠R.yb)
  (n6:∀w' a n me0,Rg S B w0 w' Bs {R with ea:=a,ec:=n,evs:=R.evs ++ [(i,c.sp)],used:=R.used+1,cl:=R.cl.set i {c with W1:=c.W1+1,wt:=false}}->xj0 cs me0->Fin Tryz.prog Post (X.pass 0 g (some ⟨R.yb,.i 0,me0⟩)) g (Go.Conc.served me1 (.bool true)) w') :
  Fin Tryz.prog Post X 0 (G (Frame.enter Tryz.prog 78 #[.p R.rb,.p c.cb] .normal) cs) w:=by
 letI:Ctx Tryz.prog:=V1 Tryz.prog true;rw[enter_at _ Tryz.func78 rfl];refine(?_:ZA (Fin Tryz.prog Post X 0) 52 (base 78) cs (Vc.Q6 #[.p R.rb,.p c.cb]) [.code (Tryz.f78.body.getD .skip)] w) _ (L5 _ _ rfl);have hZ:Ctx.Zs Tryz.prog (Fin Tryz.prog Post X 0):=V3;have hb:=Z0 78;refine ZA.seq hZ ?_;refine U140 ?_;intro hR hC;refine W.fl 17 [15,16] [0,1,2,3,4,5,6,7,8,9,10,11,12,13,14,15,16] (fun w'=>O1 w' R.rb #[.slice R.ca R.cl.length R.cc,.slice R.ea R.evs.length R.ec,.slice R.na R.W2.length R.nc,.slice (pt R.eb) R.m R.m,.slice (pt R.wb) R.m R.m,.bool R.stuck,.i (R.used:Int),.chan (some R.yb)] 153 (7,8)/\O1 w' c.cb #[.i (i:Int),.p R.rb,.chan (some c.rc),.i c.sp.kind,.i c.sp.obj,.i c.sp.num,c.rf,c.df,.i (c.W1:Int),.bool c.wt,.bool c.st] 149 (0,3)) (by kernel_rfl) (by kernel_rfl) (by kernel_rfl) (by kernel_rfl) (by kernel_rfl) (⟨hR.E0 (Below.refl w.heap.size w).drew,hC.E0 (Below.refl w.heap.size w).drew⟩) ?_;have r6:Below w.heap.size w w.drew:=(Below.refl w.heap.size w).drew;have hBs:=Nat.le_trans hBs r6.size;have hg:=hg.E0 r6;have hR:=hR.E0 r6;have hC:=hC.E0 r6;clear r6;generalize w.drew=w at *;refine F.va rfl rfl (fun w' u3=>(m3 rfl)) ?_;refine U258 ?_;refine F.va rfl rfl (fun w' u3=>(O0 rfl Tryz.underlying153 rfl je0 (by decide))) ?_;refine F.va rfl rfl (fun w' u3=>(O0 rfl Tryz.underlying30 rfl Jx0 (by decide))) ?_;refine F.va rfl rfl (fun w' u3=>(F0 rfl Tryz.underlying26 rfl (u3.1.A0 1 (v:=.slice R.ea R.evs.length R.ec) rfl))) ?_;refine U258 ?_;refine F.va rfl rfl (fun w' u3=>(O0 rfl Tryz.underlying149 rfl sz3 (by decide))) ?_;refine F.va rfl rfl (fun w' u3=>(F0 rfl Tryz.underlying3 rfl (u3.2.A0 0 (v:=.i (i:Int)) rfl))) ?_;refine U258 ?_;refine F.va rfl rfl (fun w' u3=>(O0 rfl Tryz.underlying149 rfl sz0 (by decide))) ?_;refine F.va rfl rfl (fun w' u3=>(G0 (cs:=[.i c.sp.kind,.i c.sp.obj,.i c.sp.num]) rfl Tryz.underlying47 rfl sz0 rfl (u3.2.J1 rfl))) ?_;refine F.va rfl rfl (fun w' u3=>(W0 (parts:=[(0,.tmp 13),(1,.tmp 17)]) rfl (Xm0 (i:Int) c.sp.kind c.sp.obj c.sp.num))) ?_;refine F.doo rfl rfl ?_;refine L.ku0 (cs:=#[.i (i:Int),.i c.sp.kind,.i c.sp.obj,.i c.sp.num]) rfl rfl Tryz.underlying26 Pz0 rfl ⟨_,aw1⟩ (by decide) (fun w b19 F19=>?_);have hBs:=Nat.le_trans hBs F19.below.size;have hg:=hg.E0 F19.below;have hR:=hR.E0 F19.below;have hC:=hC.E0 F19.below;have Kf0:=F19.blk;refine L.nil ⟨rfl,⟨hR,hC⟩,?_⟩;refine F.doo rfl rfl ?_;refine L.sy0 (B:=Bs) (m:=1) rfl rfl Tryz.underlying26 ax1 rfl (by decide) hg.m.evs (news:=[.i (i:Int),.i c.sp.kind,.i c.sp.obj,.i c.sp.num]) rfl (fun j u hj=>by
  rw[Addr.add_lit]
  match j,hj with
  |0,hj=>cases hj;exact Kf0.A0 0 rfl
  |1,hj=>cases hj;exact Kf0.A0 1 rfl
  |2,hj=>cases hj;exact Kf0.A0 2 rfl
  |3,hj=>cases hj;exact Kf0.A0 3 rfl) (fun u hu=>by simp only[List.mem_cons,List.not_mem_nil,or_false]at hu;rcases hu with rfl|rfl|rfl|rfl <;> rfl) (by omega) (by omega) hBs (fun a20 c20 w2 hO o3 hli=>?_)
 have hR:=J3 hR o3 (I6 hg.m.evs (by decide));have hC:=J3 hC o3 (I6 hg.m.evs (by decide));refine L.nil ⟨rfl,⟨hR,hC⟩,?_⟩;refine U18 ?_;refine U106 ?_;refine L.va (O0 rfl Tryz.underlying30 rfl Jx0 (by decide)) ?_;refine L.ce1 (o:=0) (v:=undef) hg (i,c.sp) o3 hO hli rfl rfl Jx0 (fun w hg=>?_)
 try clear o3
 refine L.nil ?_
 try clear hR
 try clear hC
 refine U278 ?_;refine U6 ?_;refine U269 ?_;refine L.va (O0 rfl Tryz.underlying30 rfl sz3 (by decide)) ?_;refine L.va (F0 rfl Tryz.underlying3 rfl (hg.m.run.A0 6 (v:=.i (R.used:Int)) rfl)) ?_;refine L.va (kp0 rfl rfl (by omega)) ?_;refine U106 ?_;refine L.va (O0 rfl Tryz.underlying30 rfl sz3 (by decide)) ?_;refine L.stR (o:=6) (vs:=[.i ((R.used+1:Nat):Int)]) hg R.stuck (R.used+1) rfl rfl rfl sz3 rfl rfl (by decide) rfl (fun w hg o3=>?_)
 try clear o3
 refine U49 ?_;refine U546 ?_;refine L.va (F0 rfl Tryz.underlying3 rfl ((hg.m.blk i c hc).A0 8 (v:=.i (c.W1:Int)) rfl)) ?_;refine L.va (kp0 rfl rfl (by omega)) ?_;refine L.va (u1 rfl) ?_;refine L.va (O0 rfl Tryz.underlying149 rfl sz3 (by decide)) ?_;refine L.stC (i:=i) (o:=8) (vs:=[.i ((c.W1+1:Nat):Int)]) hg {c with W1:=c.W1+1} hc rfl rfl rfl rfl sz3 rfl rfl (by decide) rfl (fun w hg o3=>?_)
 try clear o3
 refine U49 ?_;refine U57 ?_;refine L.stC (i:=i) (o:=9) (vs:=[.bool false]) hg {{c with W1:=c.W1+1} with wt:=false} (S5 hc) rfl rfl rfl rfl sz4 rfl rfl (by decide) rfl (fun w hg o3=>?_)
 try clear o3
 refine U17 ?_;refine ZA.upto hZ hb 4 rfl rfl (R:=fun e' w'=>ZA _ _ _ _ e' _ w') ?_ (fun _ _ h=>h);show L _ _ _ _ _ _ _;refine U529 ?_;refine L.va (F0 rfl Tryz.underlying147 rfl ((hg.m.blk i _ (S5 (S5 hc))).A0 2 (v:=.chan (some c.rc)) rfl)) ?_;refine U2 ?_;refine ZA.give (i:=4) (rest:=[]) (s:=⟨c.rc,z1,me1⟩) (j:=g) (st:=[(⟨R.rb,7,none⟩,.chan (some R.yb))]) (K:=fun s=>s.ch=R.yb/\s.z= .i 0/\xj0 cs s.me) (ft:=60) hb rfl rfl rfl hX0 G8 J8 S2 ?_ ?_ ?_
 ·have hY:=td0 (P:=Tryz.prog) (main:=true) (l:=[((⟨R.rb,7,none⟩:Addr),Value.chan (some R.yb))]) (K:=fun s=>s.ch=R.yb/\s.z= .i 0/\xj0 cs s.me);refine U286 ?_;refine U257 ?_;refine U241 ?_;refine I0.G1 (E:=3) (z:=.i 0) hb Tryz.underlying150 zr3 rfl (fun me hs=>⟨rfl,rfl,?_⟩) rfl;intro Z hZ w v hK;refine hs.go ?_;letI:Ctx Tryz.prog:=V1 Tryz.prog true;refine ZA.k3 hZ ?_;refine ZA.done hZ ?_;exact ZA.leaves (fn:=Tryz.f78) (f:=78) rfl Tryz.func78 rfl (fun fr h8 h9=>hK fr h8 h9)
 ·rintro s2 ⟨h1,_,_⟩;rw[h1];exact hsh
 ·rintro⟨ch,z,me⟩ ⟨h1,h2,h3⟩;cases h1;cases h2;exact n6 _ _ _ me (by simpa using hg) h3
end
section
attribute [local irreducible] KK
noncomputable def endLoop:Code:=match Tryz.f80.body with|some (.seq (.seq _ (.block _ (.loop c))) _)=>c|_=>.skip
noncomputable def Aa0:Code:=match Tryz.f80.body with|some (.seq _ c)=>c|_=>.skip
structure Kg0 (rb0 m:Nat) (ca:Option Addr) (cc:Nat) (Bs:Nat) (Post:Value->World->Prop) (cs:List Frame) (J:Nat->Gh->Rn->World->Prop):Prop where
 mem:∀i X R w,J i X R w->H4 w Bs R/\R.rb=rb0/\R.cl.length=m/\R.ca=ca/\R.cc=cc
 skip:∀i X R w c,J i X R w->R.cl[i]? =some c->c.wt=false->J (i+1) X R w
 stop:∀i X R w c,J i X R w->R.cl[i]? =some c->c.wt=true->∃g z1 me1,g≠0/\X.G1 g=some ⟨c.rc,z1,me1⟩/\X.dn=0/\X.stay 0=[(⟨R.rb,7,none⟩,.chan (some R.yb))]/\(X.I7 R.yb/\∀i s2,i≠g->X.G1 i=some s2->s2.ch≠R.yb) /\
  ∀w' me0,Rg R.fp w.heap.size w w' Bs {R with W7:=R.W7.set i c.sp}->(∀X' R' u v,J (i+1) X' R' u->Fin Tryz.prog Post X' 0 (Go.Conc.served me0 v) u)->Fin Tryz.prog Post (X.pass 0 g (some ⟨R.yb,.i 0,me0⟩)) g (Go.Conc.served me1 (.bool false)) w'
 fin:∀X R w,J m X R w->(∀i,X.G1 i=none)/\X.L2=some ⟨rb0,8⟩/\X.pend=0/\X.dn=0/\X.cap<2147483648/\∀fr,fr.fn=80->Leaves Tryz.prog fr w (.returned (.tuple #[]))->Fin Tryz.prog Post {X with pend:=0,cap:=0,dn:=0} 0 (G fr cs) w
set_option maxRecDepth 20000 in
theorem Fp0 {rb0 m:Nat} {ca:Option Addr} {cc:Nat} {Bs:Nat} {Post:Value->World->Prop} {cs:List Frame} {J:Nat->Gh->Rn->World->Prop} (hE:Kg0 rb0 m ca cc Bs Post cs J) {X:Gh} {R:Rn} {w:World} (hJ:J m X R w) {e:Env} (s0:e 0= .p rb0):ZA (Fin Tryz.prog Post X 0) 43 (base 80) cs e [.code Aa0] w:=by
 obtain⟨hM,q9,hm,hca,hcc⟩:=hE.mem _ _ _ _ hJ;obtain⟨o7,o3,hp,J8,cm0,hK⟩:=hE.fin _ _ _ hJ;letI:Ctx Tryz.prog:=V1 Tryz.prog true;refine U195 ?_;intro hZ hb;rw[<- q9]at s0;rw[V2 s0];clear s0;refine ZA.upto hZ hb 3 rfl rfl (R:=fun e' w'=>ZA _ _ _ _ e' _ w') ?_ (fun _ _ h=>h);show L _ _ _ _ _ _ _;refine U15 ?_;refine U528 ?_;refine ZA.call (i:=3) (rest:=[]) hZ hb (f:=70) (args:=#[.pointer (some ⟨R.rb,8,none⟩)]) rfl rfl (M0 rfl Tryz.func70 rfl Qf0 rfl) (fun a ha=>?_);rw[q9];refine Fin.wait (G:=⟨rb0,8⟩) (K:=fun g'=>g'=_) o3 o7 hp J8 (Ex0 ⟨rb0,8⟩ (fun g'=>g'=_) rfl X.cap cm0) (fun g' z6=>?_);subst z6;refine ZA.home (i:=3) rfl rfl ha ?_;have hZ':Ctx.Zs Tryz.prog (Fin Tryz.prog Post {X with pend:=0,cap:=0,dn:=0} 0):=V3;refine ZA.k3 hZ' ?_;refine ZA.done hZ' ?_;exact ZA.leaves (fn:=Tryz.f80) (f:=80) rfl Tryz.func80 rfl hK
set_option maxRecDepth 20000 in
theorem Fq0 {rb0 m:Nat} {ca:Option Addr} {cc:Nat} {Bs:Nat} {Post:Value->World->Prop} {cs:List Frame} {J:Nat->Gh->Rn->World->Prop} (hE:Kg0 rb0 m ca cc Bs Post cs J) (hm1:m <=1000):∀(k i:Nat),i+k=m->∀X R w,J i X R w->∀e:Env,e 0= .p rb0->e 7= .slice ca m cc->e 8= .i (m:Int)->e 9= .i (i:Int)->ZA (Fin Tryz.prog Post X 0) 43 (base 80) cs e [.code endLoop,.inLoop endLoop,.inBlock 0,.code Aa0] w:=by
 intro k
 induction k with
 |zero=>
  intro i hk X R w hJ e s0 s7 s8 s9;obtain⟨hM,q9,hm,hca,hcc⟩:=hE.mem _ _ _ _ hJ;letI:Ctx Tryz.prog:=V1 Tryz.prog true;refine U195 ?_;intro hZ hb;rw[<- q9]at s0;rw[<- hca,<- hm,<- hcc]at s7;rw[<- hm]at s8;refine U190 ?_;refine ZA.seq hZ ?_;obtain rfl:i=R.cl.length:=by omega
  refine U100 ?_;refine U356 ?_;refine U266 ?_;exact Fp0 hE (by rw[<- hm];exact hJ) (by rw[<- q9];rfl)
 |succ k ih=>
  intro i hk X R w hJ e s0 s7 s8 s9;obtain⟨hM,q9,hm,hca,hcc⟩:=hE.mem _ _ _ _ hJ;letI:Ctx Tryz.prog:=V1 Tryz.prog true;refine U195 ?_;intro hZ hb;rw[<- q9]at s0;rw[<- hca,<- hm,<- hcc]at s7;rw[<- hm]at s8;refine U190 ?_;have T2:i<R.cl.length:=by omega
  obtain⟨c,hc⟩:∃c,R.cl[i]? =some c:=⟨_,List.getElem?_eq_getElem T2⟩
  refine U65 ?_;refine U276 ?_;refine U205 ?_;refine L.va (C5 rfl) ?_;refine U409 ?_;refine L.va (cb0 rfl) ?_;refine L.va (kl0 rfl) ?_;refine U49 ?_;refine U475 ?_;refine U2 ?_;by_cases hwt:c.wt=false
  ·refine ZA.v5 hZ (rb hwt) ?_;refine ZA.skip hZ ?_;refine ZA.inBlock hZ ?_;refine U122 ?_;exact ih (i+1) (by omega) X R w (hE.skip i X R w c hJ hc hwt) _ (by rw[<- q9];rfl) (by rw[<- hca,<- hm,<- hcc];rfl) (by rw[<- hm];rfl) rfl
  ·have hwt:c.wt=true:=by simpa using hwt
   refine ZA.J4 hZ (rb hwt) ?_;obtain⟨g,z1,me1,G8,hX0,J8,S2,hsh,n6⟩:=hE.stop i X R w c hJ hc hwt;have hg:=hM.rg;refine ZA.seq hZ ?_;refine U140 ?_;intro hR hC;refine W.fr0 11 (fun w'=>Below w.heap.size w w') (by kernel_rfl) (by kernel_rfl) (by kernel_rfl) (by kernel_rfl) ((Below.refl w.heap.size w).drew) ?_;refine D.va (fun w' u3=>(m3 rfl)) ?_;refine U333 ?_;refine D.va (fun w' u3=>(O0 rfl Tryz.underlying30 rfl Px0 (by decide))) ?_;refine D.va (fun w' u3=>(F0 rfl Tryz.underlying28 rfl ((hR.E0 u3).A0 4 (v:=.slice (pt R.wb) R.m R.m) rfl))) ?_;refine D.va (fun w' u3=>(C5 rfl)) ?_;refine U265 ?_;refine D.va (fun w' u3=>(O0 rfl Tryz.underlying149 rfl sz0 (by decide))) ?_;refine D.va (fun w' u3=>(G0 (cs:=[.i c.sp.kind,.i c.sp.obj,.i c.sp.num]) rfl Tryz.underlying47 rfl sz0 rfl ((hC.E0 u3).J1 rfl))) ?_;refine D.va (fun w' u3=>c9 (i:=i) rfl rfl Tryz.underlying28 sz0 (Nat.lt_of_lt_of_le T2 hM.lcl)) ?_;refine U139 ?_;intro w I1 hg;have hR:=hR.E0 I1;have hC:=hC.E0 I1;clear I1;refine L.stW (i:=i) (z:=c.sp) hg (Nat.lt_of_lt_of_le T2 hM.lcl) rfl rfl sz0 (fun w hg o3=>?_);clear o3;refine L.nil ?_
   try clear hR
   try clear hC
   refine U278 ?_;refine ZA.seq hZ ?_;refine ZA.upto hZ hb 4 rfl rfl (R:=fun e' w'=>ZA _ _ _ _ e' _ w') ?_ (fun _ _ h=>h);show L _ _ _ _ _ _ _;refine U529 ?_;refine L.va (F0 rfl Tryz.underlying147 rfl ((hg.m.blk i c hc).A0 2 (v:=.chan (some c.rc)) rfl)) ?_;refine U2 ?_;refine ZA.give (i:=4) (rest:=[]) (s:=⟨c.rc,z1,me1⟩) (j:=g) (st:=[(⟨R.rb,7,none⟩,.chan (some R.yb))]) (K:=fun s=>s.ch=R.yb/\s.z= .i 0/\∀X' R' u v,J (i+1) X' R' u->Fin Tryz.prog Post X' 0 (Go.Conc.served s.me v) u) (ft:=60) hb rfl rfl rfl hX0 G8 J8 S2 ?_ ?_ ?_
   ·have hY:=td0 (P:=Tryz.prog) (main:=true) (l:=[((⟨R.rb,7,none⟩:Addr),Value.chan (some R.yb))]) (K:=fun s=>s.ch=R.yb/\s.z= .i 0/\∀X' R' u v,J (i+1) X' R' u->Fin Tryz.prog Post X' 0 (Go.Conc.served s.me v) u);refine U286 ?_;refine U257 ?_;refine U241 ?_;refine I0.G1 (E:=3) (z:=.i 0) hb Tryz.underlying150 zr3 rfl (fun me hs=>⟨rfl,rfl,?_⟩) rfl;intro X R' w v hJ';refine hs.go ?_;have hZ:Ctx.Zs Tryz.prog (Fin Tryz.prog Post X 0):=V3;refine U285 ?_;refine U122 ?_;exact ih (i+1) (by omega) X R' w hJ' _ (by rw[<- q9];rfl) (by rw[<- hca,<- hm,<- hcc];rfl) (by rw[<- hm];rfl) rfl
   ·rintro s2 ⟨h1,_,_⟩;rw[h1];exact hsh
   ·rintro⟨ch,z,me⟩ ⟨h1,h2,h3⟩;cases h1;cases h2;exact n6 _ me hg h3
set_option maxRecDepth 20000 in
theorem Ab0 {rb0 m:Nat} {ca:Option Addr} {cc:Nat} {Bs:Nat} {Post:Value->World->Prop} {cs:List Frame} {J:Nat->Gh->Rn->World->Prop} (hE:Kg0 rb0 m ca cc Bs Post cs J) (hm1:m <=1000) {X:Gh} {R:Rn} {w:World} (hJ:J 0 X R w):Fin Tryz.prog Post X 0 (G (Frame.enter Tryz.prog 80 #[.p rb0] .normal) cs) w:=by
 obtain⟨hM,q9,hm,hca,hcc⟩:=hE.mem _ _ _ _ hJ;letI:Ctx Tryz.prog:=V1 Tryz.prog true;refine U195 ?_;intro hZ hb;rw[enter_at _ Tryz.func80 rfl];rw[<- q9];refine(?_:ZA (Fin Tryz.prog Post X 0) 43 (base 80) cs (Vc.Q6 #[.p R.rb]) [.code (Tryz.f80.body.getD .skip)] w) _ (L5 _ _ rfl);refine ZA.seq hZ ?_;refine U6 ?_;refine U178 ?_;refine U407 ?_;refine U135 ?_;exact Fq0 hE hm1 m 0 (by omega) X R w hJ _ (by rw[<- q9];rfl) (by rw[<- hca,<- hm,<- hcc];rfl) (by rw[<- hm];rfl) rfl
end
end Go.Vy.Sc
end
section
namespace Go.Vy
open Go Go.Conc Go.Yc Go.RowKit
open Go.Vc Go.Wg
def ChanAt (w:World) (b:Nat):Prop:=w.heap[b]? =some (.chan 0 #[] false 0 0 false)
section
variable {w w':World}{b:Nat}
theorem ChanAt.lt (h:ChanAt w b):b<w.heap.size:=(Array.getElem?_eq_some_iff.1 h).1
theorem ChanAt.E0 (h:ChanAt w b) (hb:Below w.heap.size w w'):ChanAt w' b:=(hb.block b h.lt).trans h
theorem ChanAt.grown {row:Option Nat} (h:ChanAt w b) (hg:w.grownBy w' row) (hr:∀r,row=some r->∃cs T f,O1 w r cs T f):ChanAt w' b :=
 (hg.block b h.lt fun e=>by
  obtain⟨cs,T,f,h'⟩:=hr b e.symm;unfold ChanAt at h;unfold O1 at h';rw[h]at h';cases h').trans h
end
theorem L.makeChan {P:Program} [Ctx P] {n:Nat} {Q:Exit->Env->World->Prop} {e:Env} {w:World} {ops:Array Oper} {rest:List Oper} {d:Nat} {ty:TypeId} {ps:String} {af:Array Edge} {T E:TypeId} {x:Operand} {dd:ChanDir} (hx:ev e x= .int .i64 0) (hT:P.underlying T=some (.chan dd E)) (hi:∃z,(P.info? E).map (·.size)=some z)
  (k:∀w1,Below w.heap.size w w1->ChanAt w1 w.heap.size->w1.heap.size=w.heap.size+1->L P n ops Q rest (upd e d (.chan (some w.heap.size))) w1):L P n ops Q (⟨some d,.makeChan T x,ty,ps,af,none⟩::rest) e w:=by
 obtain⟨z,hz⟩:=hi;obtain⟨i,hi,_⟩:=Option.map_eq_some_iff.1 hz;refine L.va (v:=.chan (some w.heap.size)) (w':=w.alloc (.chan 0 #[] false 0 0 false)) (.A1 (E2 rfl _) rfl rfl fun τ d'=>?_) (k _ ((Below.refl _ _).alloc (Nat.le_refl _) _) (by unfold ChanAt;show(w.heap.push _)[_]? =_;simp) (by show(w.heap.push _).size=_;simp));have:=run_makeChan (P:=P) (w:=j3 w τ d') hT hi .i64 0 (by decide) (by simp);show _=Result.ok (Next.value (.chan (some (j3 w τ d').heap.size))) ((j3 w τ d').alloc (.chan 0 #[] false 0 0 false));simp only[execOp,hx];have h2:((0:Nat):Int)=0:=rfl;rw[h2]at this;simp[this]
section
variable {P:Program}{Post:Value->World->Prop}{X:Gh}{h n:Nat}{b:Frame}{cs:List Frame}{e:Env}{k:List Item}{w:World}
theorem ZA.freeze {bb:Nat} {cells:Array Value} {T:TypeId} {f:Nat×Nat} (hl:z9 X bb) (hB:O1 w bb cells T (0,0)) (hz:ZA (Fin P Post (X.lower bb) h) n b cs e k (P1 w bb cells T f)):ZA (Fin P Post X h) n b cs e k w :=
 fun a ha=>Fin.freeze (f:=(0,0)) (f':=f) hl hB (fun i hi=>by unfold inR at hi;omega) (hz a ha)
def tg0 (X:Gh) (rb yb off:Nat):Gh:=⟨X.G1,Go.ConcN.upd X.stay 0 [(⟨rb,off-1,none⟩,.chan (some yb))],some ⟨rb,off⟩,X.L2.toList++X.old,X.X3,fun c=>X.I7 c\/c=yb,fun k=>(X.low k\/k=yb)\/k=rb,X.D4,X.cap,X.pend,X.dn,X.n⟩
theorem ZA.begin {rb yb:Nat} {c8:Array Value} {T:TypeId} (cm0:X.cap=0) (hU:X.W8 rb) (hUy:X.W8 yb) (hpr:X.D4 rb= .all) (hpy:X.D4 yb= .all) (X5:ChanAt w yb) (hB:V0 w rb (c8 ++ #[.int .u64 0,.int .u32 0]) T) (h0:0<c8.size) (hy:c8[c8.size-1]? =some (.chan (some yb)))
  (hz:ZA (Fin P Post (tg0 X rb yb c8.size) 0) n b cs e k (P1 (O2 w yb nothing) rb c8 T (c8.size-1,c8.size))):ZA (Fin P Post X 0) n b cs e k w:=by
 have r3:yb≠rb:=by
  intro e;subst e;unfold ChanAt at X5;unfold V0 at hB;rw[X5]at hB;cases hB
 intro a ha;refine Fin.chan (b:=yb) (k:=0) (hUy.A9 (Nat.le_refl _)) (fun hl=>absurd (hUy.low _ hl) (Nat.lt_irrefl _)) hpy X5 ?_;have hB1:(O2 w yb nothing).heap[rb]? =some (.cells (c8 ++ #[.int .u64 0,.int .u32 0]) T (0,0)):=by rw[c5 _ _ r3];exact hB
 refine Fin.wm0 (f':=(c8.size-1,c8.size)) (b:=rb) cm0 ?_ ?_ hpr hB1 (Nat.zero_le _) ?_
 ·have hl:=hU.A9 (Nat.le_refl rb);exact⟨hl.stay,hl.X3,fun h=>h.elim hl.I7 fun h=>r3 h.symm,hl.L2⟩
 ·intro h;rcases h with h|h
  ·exact absurd (hU.low _ h) (Nat.lt_irrefl _)
  ·exact r3 h.symm
 have u6:(O2 (O2 w yb nothing) rb (.cells c8 T (c8.size-1,c8.size))).heap[rb]? =some (.cells c8 T (c8.size-1,c8.size)):=K6 _ hB1;refine Fin.stay (l:=[(⟨rb,c8.size-1,none⟩,.chan (some yb))]) (fun p hp=>?_) (hz a ha);obtain rfl:p=(⟨rb,c8.size-1,none⟩,.chan (some yb)):=by simpa using hp
 exact⟨O1.cell (f:=(c8.size-1,c8.size)) u6 hy,by rw[O1.frozen (f:=(c8.size-1,c8.size)) u6];simp;omega⟩
end
end Go.Vy
end
section
namespace Go.Vy.Sc
open Go Go.Conc Go.Yc Go.RowKit Go.Proofs Go.Proofs.YtnifpkopeheodaaGreat Try
open Go.Vc Go.Wg
section
attribute [local irreducible] KK
noncomputable def Ac0:Code:=match Tryz.f76.body with|some (.seq _ (.block _ (.loop c)))=>c|_=>.skip
def sp0:Stp:=⟨0,0,0⟩
abbrev Z3 (cb rc:Nat):CB:=⟨cb,rc,sp0,.nilFunc,.nilFunc,0,false,false⟩
structure Qo0 (rb0 m:Nat) (ba:Option Addr) (fv:Nat->Value) (Bs:Nat) (Post:Value->World->Prop) (cs:List Frame) (J:Nat->Gh->Rn->World->Prop):Prop where
 sl:SL ba m
 fn:∀i,i<m->fv i= .nilFunc\/∃f fn caps,fv i= .func (.func f) #[] caps/\Tryz.prog.funcs[f]? =some fn/\fn.body.isSome=true/\(fn.name== "runtime.NumGoroutine")=false
 mem:∀i X R w,J i X R w->H4 w Bs R/\R.rb=rb0/\R.cl.length=i/\R.m=m/\Bs <=w.heap.size/\X.W8 w.heap.size/\∀j,j<m->w.cell? ⟨ab ba,ao ba+j*1,none⟩=some (fv j)
 nil:∀i X R w w' a n cb rc,i<m->J i X R w->fv i= .nilFunc->w.heap.size <=cb->w.heap.size <=rc->Rg R.fp w.heap.size w w' Bs {R with ca:=a,cc:=n,cl:=R.cl ++ [Z3 cb rc],ends:=R.ends.set i 1}->J (i+1) (X.lower cb) {R with ca:=a,cc:=n,cl:=R.cl ++ [Z3 cb rc],ends:=R.ends.set i 1} w'
 go:∀i X R w w' a n cb rc,i<m->J i X R w->fv i≠.nilFunc->w.heap.size <=cb->w.heap.size <=rc->cb≠rc->ChanAt w' rc->Rg R.fp w.heap.size w w' Bs {R with ca:=a,cc:=n,cl:=R.cl ++ [Z3 cb rc]} ->
  X.L2=some ⟨rb0,8⟩/\X.pend=0/\X.cap<65536/\X.dn=0/\X.stay 0=[(⟨R.rb,7,none⟩,.chan (some R.yb))]/\(X.I7 R.yb/\∀i s2,X.G1 i=some s2->s2.ch≠R.yb) /\
  ∀me0,(∀X' R' u v,J (i+1) X' R' u->Fin Tryz.prog Post X' 0 (Go.Conc.served me0 v) u)->Fin Tryz.prog Post (Gh.hire {X.lower cb with pend:=1,cap:=X.cap+1,dn:=0} ⟨R.yb,.i 0,me0⟩) X.n (born Tryz.prog (dcall 106 #[.p cb,fv i])) w'
 fin:∀X R w,J m X R w->∀fr,fr.fn=76->Leaves Tryz.prog fr w (.returned (.tuple #[]))->Fin Tryz.prog Post X 0 (G fr cs) w
theorem Xn0 (x0:Int) (x1:Option Addr) (x2:Option Nat):Tryz.prog.built 149 [(0,.i x0),(1,.pointer x1),(2,.chan x2)]=some #[.i x0,.pointer x1,.chan x2,.i 0,.i 0,.i 0,.nilFunc,.nilFunc,.i 0,.bool false,.bool false]:=by kernel_rfl
set_option maxRecDepth 20000 in
theorem Fr0 {rb0 m:Nat} {ba:Option Addr} {fv:Nat->Value} {Bs:Nat} {Post:Value->World->Prop} {cs:List Frame} {J:Nat->Gh->Rn->World->Prop} (hE:Qo0 rb0 m ba fv Bs Post cs J) (hm1:m <=1000) {bc:Nat}:∀(k i:Nat),i+k=m->∀X R w1,J i X R w1->∀e:Env,e 0= .p rb0->e 7= .slice ba m bc->e 8= .i (m:Int)->e 9= .i (i:Int)->ZA (Fin Tryz.prog Post X 0) 50 (base 76) cs e [.code Ac0,.inLoop Ac0,.inBlock 0] w1:=by
 intro k
 induction k with
 |zero=>
  intro i hk X R w1 hJ e s0 s7 s8 s9;obtain⟨hM,q9,hlen,hRm,hBs,hU,L9⟩:=hE.mem _ _ _ _ hJ;letI:Ctx Tryz.prog:=V1 Tryz.prog true;refine U296 ?_;intro hZ hb;rw[<- q9]at s0;refine U190 ?_;have hg:=hM.rg;refine U65 ?_;refine U266 ?_;refine ZA.done hZ ?_;obtain rfl:i=m:=by omega
  exact ZA.leaves (fn:=Tryz.f76) (f:=76) rfl Tryz.func76 rfl (hE.fin X R w1 hJ)
 |succ k ih=>
  intro i hk X R w1 hJ e s0 s7 s8 s9;obtain⟨hM,q9,hlen,hRm,hBs,hU,L9⟩:=hE.mem _ _ _ _ hJ;letI:Ctx Tryz.prog:=V1 Tryz.prog true;refine U296 ?_;intro hZ hb;rw[<- q9]at s0;refine U190 ?_;have hg:=hM.rg;have T2:i<m:=by omega
  refine U65 ?_;refine U276 ?_;refine U205 ?_;refine L.va (C5 rfl) ?_;refine L.va (bc0 (i:=i) rfl rfl Tryz.underlying90 Vb0 hE.sl T2) ?_;refine L.va (F0 (v:=fv i) rfl Tryz.underlying73 rfl (L9 i T2)) ?_;refine L.va (cb0 rfl) ?_;refine L.va cq0 ?_;refine U49 ?_;refine L.va (C5 rfl) ?_;refine L.va (m3 rfl) ?_;refine L.makeChan rfl Tryz.underlying147 ⟨_,sz4⟩ (fun w2 I1 X5 Bq0=>?_);obtain⟨rc,hrc⟩:∃rc,rc=w1.heap.size:=⟨_,rfl⟩
  have lrc:w1.heap.size <=rc:=Nat.le_of_eq hrc.symm;rw[<- hrc]at X5⊢;have hg:=hg.E0 I1;refine L.va (W0 (parts:=[(0,.tmp 14),(1,.tmp 15),(2,.tmp 16)]) rfl (Xn0 (i:Int) ((pt R.rb)) (some rc))) ?_;refine L.box (cs:=(Z3 0 rc).cells R.rb i) rfl rfl (fun w3 cb F=>?_);have lcb:w1.heap.size <=cb:=by have:=F.here;have:=I1.size;omega
  have r3:cb≠rc:=by have:=F.here;omega
  have hg:=hg.E0 F.below;have X5:=X5.E0 F.below;have hX:=m4 F.blk;have hBs:=Nat.le_trans hBs (Nat.le_trans I1.size F.below.size);clear F I1;refine L.va (kl0 rfl) ?_;refine U2 ?_;have hfb:∀k,R.fp k->k≠cb:=fun k hk e=>by have:=hM.lt hk;omega
  refine ZA.freeze (f:=(0,3)) (hU.A9 lcb) hX ?_;have hg:=hg.fresh ((Z3 0 rc).cells R.rb i) 149 (0,3) hfb lcb;have X5:ChanAt (P1 w3 cb ((Z3 0 rc).cells R.rb i) 149 (0,3)) rc:=X5.grown (o2 _ _ _ _ _) (fun r e=>by cases e;exact⟨_,_,_,hX⟩);have hX:O1 (P1 w3 cb ((Z3 0 rc).cells R.rb i) 149 (0,3)) cb ((Z3 cb rc).cells R.rb R.cl.length) 149 (0,3):=by rw[hlen];exact T4 hX _ _ _
  rw[<- w5 (w:=w3) (b:=cb) (cs:=(Z3 0 rc).cells R.rb i) (T:=149) (f:=(0,3))]at hBs;generalize P1 w3 cb ((Z3 0 rc).cells R.rb i) 149 (0,3)=w at *;have hZ:Ctx.Zs Tryz.prog (Fin Tryz.prog Post (X.lower cb) 0):=V3;refine U6 ?_;refine L.va (m3 rfl) ?_;refine U178 ?_;refine L.va (F0 rfl Tryz.underlying151 rfl (hg.m.run.A0 0 (v:=.slice R.ca R.cl.length R.cc) rfl)) ?_;refine L.va (m3 rfl) ?_;refine L.ku0 (cs:=#[.p cb]) rfl rfl Tryz.underlying151 Eq0 rfl ⟨_,Vc0⟩ (by decide) (fun w b25 F25=>?_);have hBs:=Nat.le_trans hBs F25.below.size;have hg:=hg.E0 F25.below;have X5:=X5.E0 F25.below;have hX:=hX.E0 F25.below;have he0:=F25.blk;have hX0:=hX;have hR:=hg.m.run;refine L.sy0 (B:=Bs) (m:=1) rfl rfl Tryz.underlying151 Qe0 rfl (by decide) hg.m.cls (news:=[.p cb]) rfl (fun j u hj=>by
   rw[Addr.add_lit]
   match j,hj with
   |0,hj=>cases hj;exact he0.A0 0 rfl) (fun u hu=>by simp only[List.mem_cons,List.not_mem_nil,or_false]at hu;subst hu;rfl) (by omega) (by omega) hBs (fun a26 c26 w2 hO o3 hli=>?_)
  have X5:=X5.grown o3 (Kc0 hg.m.cls);have hX:=True.intro;have hR:=J3 hR o3 (I6 hg.m.cls (by decide));refine L.va (u1 rfl) ?_;refine L.va (O0 rfl Tryz.underlying153 rfl Et0 (by decide)) ?_;refine L.cg1 hg (Z3 cb rc) hX0 (.inr lcb) (by rw[hlen,hRm];exact T2) o3 hO hli rfl rfl Et0 (fun w hg Xo0=>?_);have X5:=X5.grown Xo0 (fun r e=>by cases e;exact⟨_,_,_,hR⟩);clear Xo0 o3 hO hli;refine U17 ?_;refine ZA.seq hZ ?_;by_cases Bf0:fv i= .nilFunc
  ·refine ZA.W hZ hb ?_;refine U111 ?_;refine L.va (B7 (v:=fv i) (b:=true) rfl (.inl ⟨Bf0,rfl⟩) rfl Tryz.underlying73 ⟨_,_,_,rfl⟩) ?_;refine U200 ?_;refine U6 ?_;refine U269 ?_;refine L.va (O0 rfl Tryz.underlying30 rfl Jw0 (by decide)) ?_;refine L.va (F0 rfl Tryz.underlying23 rfl (hg.m.run.A0 3 (v:=.slice (pt R.eb) R.m R.m) rfl)) ?_;refine L.va (C5 rfl) ?_;refine L.va (c9 (i:=i) rfl rfl Tryz.underlying23 sz3 (by rw[hRm];exact T2)) ?_;refine L.stE (i:=i) hg (by show i<R.m;rw[hRm];exact T2) rfl rfl sz3 (fun w hg o3=>?_);clear o3;refine U2 ?_;refine ZA.exit hZ rfl ?_;refine U122 ?_;exact ih (i+1) (by omega) _ _ w (hE.nil i X R w1 w _ _ cb rc T2 hJ Bf0 lcb lrc hg) _ (by rw[<- q9];rfl) rfl rfl rfl
  ·refine ZA.W hZ hb ?_;refine U111 ?_;obtain⟨f,fn,caps,hfv,hff,hbd,hnm⟩:=(hE.fn i T2).resolve_left Bf0;refine L.va (B7 (v:=fv i) (b:=false) rfl (.inr ⟨_,_,_,hfv,rfl⟩) rfl Tryz.underlying73 ⟨_,_,_,rfl⟩) ?_;refine U125 ?_;obtain⟨Iw0,if0,cm0,J8,S2,hsh,hgo⟩:=hE.go i X R w1 w _ _ cb rc T2 hJ Bf0 lcb lrc r3 X5 hg;refine ZA.upto hZ hb 3 rfl rfl (R:=fun e' w'=>ZA _ _ _ _ e' _ w') ?_ (fun _ _ h=>h);show L _ _ _ _ _ _ _;refine U15 ?_;refine U528 ?_;refine ZA.call (i:=3) (rest:=[]) hZ hb (f:=66) (args:=#[.pointer (some ⟨R.rb,8,none⟩),.i 1]) rfl rfl (n3 rfl rfl Tryz.func66 rfl Jz0 rfl) (fun a ha=>?_);have hXe:X.lower cb={X.lower cb with dn:=0}:=by show X.lower cb={X.lower cb with dn:=0};cases X;simp only[Gh.lower]at J8⊢;subst J8;rfl
   rw[hXe,q9];refine Fin.Cq0 (G:=⟨rb0,8⟩) (X:=X.lower cb) (K:=fun g'=>g'=_) Iw0 if0 cm0 (fun g' z6=>?_) _ _ _ (Ns0 ⟨rb0,8⟩ (fun g'=>g'=_) rfl);subst z6;refine ZA.home (i:=3) rfl rfl ha ?_;have hZ:Ctx.Zs Tryz.prog (Fin Tryz.prog Post {X.lower cb with pend:=1,cap:=(X.lower cb).cap+1,dn:=0} 0):=V3;refine U267 ?_;refine ZA.upto hZ hb 2 rfl rfl (R:=fun e' w'=>ZA _ _ _ _ e' _ w') ?_ (fun _ _ h=>h);refine U110 ?_;refine L.va cp0 ?_;refine U2 ?_;refine ZA.spawn (i:=2) (rest:=[]) (gr:=⟨rb0,8⟩) (vs:=#[.p cb,fv i]) (st:=[(⟨R.rb,7,none⟩,.chan (some R.yb))]) (K:=fun s=>s.ch=R.yb/\s.z= .i 0/\∀X' R' u v,J (i+1) X' R' u->Fin Tryz.prog Post X' 0 (Go.Conc.served s.me v) u) (ft:=60) hb rfl (Wg.X6 (vl:=[.p cb,fv i]) rfl) rfl rfl Iw0 S2 ?_ ?_ ?_
   ·have hY:=td0 (P:=Tryz.prog) (main:=true) (l:=[((⟨R.rb,7,none⟩:Addr),Value.chan (some R.yb))]) (K:=fun s=>s.ch=R.yb/\s.z= .i 0/\∀X' R' u v,J (i+1) X' R' u->Fin Tryz.prog Post X' 0 (Go.Conc.served s.me v) u);refine U286 ?_;refine U257 ?_;refine U241 ?_;refine I0.G1 (E:=3) (z:=.i 0) hb Tryz.underlying150 zr3 rfl (fun me hs=>⟨rfl,rfl,?_⟩) rfl;intro X' R' w v hJ';refine hs.go ?_;have hZ:Ctx.Zs Tryz.prog (Fin Tryz.prog Post X' 0):=V3;refine U285 ?_;refine U122 ?_;exact ih (i+1) (by omega) X' R' w hJ' _ (by rw[<- q9];rfl) rfl rfl rfl
   ·rintro s2 ⟨h1,_,_⟩;rw[h1];exact hsh
   ·rintro⟨ch,z,me⟩ ⟨h1,h2,h3⟩;cases h1;cases h2;exact hgo me h3
set_option maxRecDepth 20000 in
theorem Kh0 {rb0 m:Nat} {ba:Option Addr} {fv:Nat->Value} {Bs:Nat} {Post:Value->World->Prop} {cs:List Frame} {J:Nat->Gh->Rn->World->Prop} (hE:Qo0 rb0 m ba fv Bs Post cs J) (hm1:m <=1000) {bc:Nat} {X:Gh} {R:Rn} {w:World} (hJ:J 0 X R w):Fin Tryz.prog Post X 0 (G (Frame.enter Tryz.prog 76 #[.p rb0,.slice ba m bc] .normal) cs) w:=by
 obtain⟨hM,q9,hlen,hRm,hBs,hU,L9⟩:=hE.mem _ _ _ _ hJ;letI:Ctx Tryz.prog:=V1 Tryz.prog true;refine U296 ?_;intro hZ hb;rw[enter_at _ Tryz.func76 rfl];rw[<- q9];have hg:=hM.rg;refine(?_:ZA (Fin Tryz.prog Post X 0) 50 (base 76) cs (Vc.Q6 #[.p R.rb,.slice ba m bc]) [.code (Tryz.f76.body.getD .skip)] w) _ (L5 _ _ rfl);refine U579 ?_;refine U135 ?_;exact Fr0 hE hm1 m 0 (by omega) X R w hJ _ (by rw[<- q9];rfl) rfl rfl rfl
end
section
attribute [local irreducible] KK
noncomputable def Ad0:Code:=match Tryz.f48.body with|some (.seq _ (.seq _ (.seq _ (.seq _ (.seq _ (.seq _ (.seq _ (.seq (.seq _ (.block _ (.loop c))) _))))))))=>c|_=>.skip
noncomputable def th0:Code:=match Tryz.f48.body with|some (.seq _ (.seq _ (.seq _ (.seq _ (.seq _ (.seq _ (.seq _ (.seq _ c))))))))=>c|_=>.skip
def rn0 (rb yb eb wb m:Nat):Rn:=⟨rb,yb,eb,wb,m,none,0,[],none,0,[],none,0,[],List.replicate m 0,List.replicate m sp0,false,0⟩
def M9 (e:Int) (n:Nat):Nat:=(e%(n:Int)).toNat
theorem Br0 (e:Int) {n:Nat} (hn:0<n):M9 e n<n:=by
 refine U580 ?_;intro h1 h2;unfold M9;omega
theorem cj1 (e:Int) {n:Nat} (hn:0<n):(e.tmod (n:Int)+(n:Int)).tmod (n:Int)=((M9 e n:Nat):Int):=by
 refine U580 ?_;intro h1 h2;have h3:-(n:Int)<e.tmod (n:Int):=by
  have:=Int.lt_tmod_of_pos e (b:=(n:Int)) (by omega);omega
 have h4:((M9 e n:Nat):Int)=e%(n:Int):=by unfold M9;omega
 rw[h4,Int.tmod_eq_emod_of_nonneg (by omega),Int.add_emod_right];rw[Int.tmod_eq_emod];split
 ·simp
 ·rw[Int.sub_emod,Int.emod_emod];have:(((n:Int).natAbs:Int))%(n:Int)=0:=by simp
  rw[this,Int.sub_zero,Int.emod_emod]
theorem Ki0 (e:Int) {n:Nat} (hn:0<n) (h:n <=1000):-1000 <=e.tmod (n:Int)/\e.tmod (n:Int) <=1000:=by
 have h1:=Int.lt_tmod_of_pos e (b:=(n:Int)) (by omega);have h2:=Int.tmod_lt_of_pos e (b:=(n:Int)) (by omega);omega
structure Fs0 (rb0 m sn tb:Nat) (ba sa:Option Addr) (fv:Nat->Value) (sc:Nat->Int) (Bs:Nat) (Post:Value->World->Prop) (JB J2 JE:Nat->Gh->Rn->World->Prop) (rr:Nat->Nat->Bool):Prop where
 beg:∀cs,(∀X R w,JB m X R w->∀fr,fr.fn=76->Leaves Tryz.prog fr w (.returned (.tuple #[]))->Fin Tryz.prog Post X 0 (G fr cs) w)->Qo0 rb0 m ba fv Bs Post cs JB
 b2s:∀X R w,JB m X R w->J2 0 X R w
 ssl:SL sa sn
 mem:∀n X R w,J2 n X R w->H4 w Bs R/\R.rb=rb0/\R.cl.length=m/\Bs <=w.heap.size/\R.evs.length <=1000000/\R.used <=1000000/\(∀(i:Nat) (c:CB),R.cl[i]? =some c->c.W1 <=1000000)/\∀j,j<sn->w.cell? ⟨ab sa,ao sa+j*1,none⟩=some (.i (sc j))
 E0:∀n X R w w',J2 n X R w->Below w.heap.size w w'->J2 n X R w'
 rdy:∀n X R w,J2 n X R w->∀(i:Nat) (c:CB),R.cl[i]? =some c->c.wt=true->@tc0 (V1 Tryz.prog true) w c.rf (rr n i)
 pick:∀n X R w i c,J2 n X R w->n<sn->(rdl R.cl (rr n) m)[M9 (sc n) (rdl R.cl (rr n) m).length]? =some i->R.cl[i]? =some c->∃g z1 me1,g≠0/\X.G1 g=some ⟨c.rc,z1,me1⟩/\X.dn=0/\X.stay 0=[(⟨R.rb,7,none⟩,.chan (some R.yb))]/\(X.I7 R.yb/\∀i s2,i≠g->X.G1 i=some s2->s2.ch≠R.yb) /\
  ∀w' a nn me0,Rg R.fp w.heap.size w w' Bs {R with ea:=a,ec:=nn,evs:=R.evs ++ [(i,c.sp)],used:=R.used+1,cl:=R.cl.set i {c with W1:=c.W1+1,wt:=false}}->(∀X' R' u v,J2 (n+1) X' R' u->Fin Tryz.prog Post X' 0 (Go.Conc.served me0 v) u)->Fin Tryz.prog Post (X.pass 0 g (some ⟨R.yb,.i 0,me0⟩)) g (Go.Conc.served me1 (.bool true)) w'
 toE:∀n X R w w' b,J2 n X R w->(n=sn\/rdl R.cl (rr n) m=[])->b=(R.cl.any (·.wt)&&(rdl R.cl (rr n) m).isEmpty)->Rg R.fp w.heap.size w w' Bs {R with stuck:=b}->JE 0 X {R with stuck:=b} w'
 en:∀ca cc cs,(∀X R w,JE m X R w->R.ca=ca->R.cc=cc->∀fr,fr.fn=80->Leaves Tryz.prog fr w (.returned (.tuple #[]))->Fin Tryz.prog Post {X with pend:=0,cap:=0,dn:=0} 0 (G fr cs) w)->Kg0 rb0 m ca cc Bs Post cs (fun i X R w=>JE i X R w/\R.ca=ca/\R.cc=cc)
 ck1:∀X R w,JE m X R w->H4 w Bs R/\R.rb=rb0/\O1 w tb #[.slice none 0 0,.slice none 0 0,.slice none 0 0,.slice none 0 0,.bool false,.i 0] 30 (0,0)
abbrev Ft0 (R:Rn):Value:=.agg #[.slice R.ea R.evs.length R.ec,.slice R.na R.W2.length R.nc,.slice (pt R.eb) R.m R.m,.slice (pt R.wb) R.m R.m,.bool R.stuck,.i (R.used:Int)]
structure Kj0 (m tb:Nat) (Post:Value->World->Prop) (cs:List Frame) (JE:Nat->Gh->Rn->World->Prop):Prop where
 ret:∀X R w w' fr,JE m X R w->w.grownBy w' (some tb)->fr.fn=48->Leaves Tryz.prog fr w' (.returned (.tuple #[Ft0 R,.i 0]))->Fin Tryz.prog Post {X with pend:=0,cap:=0,dn:=0} 0 (G fr cs) w'
theorem lg0 {Z:Goroutine->World->Prop} {n:Nat} {cs:List Frame} {e:Env} {w:World} {t u b:Nat} {T E:TypeId} {fn:Func} {f:FuncId} {cells:Array Value} {d:TypeDesc} {v:Value} (hf:Tryz.prog.funcs[f]? =some fn) (hr:fn.results=#[.cell t T,.tmp u]) (he:e t= .p b) (hu0:e u=v) (hT:Tryz.prog.underlying T=some d) (hu:H9 d=false) (hB:V0 w b cells E) (hs:(Tryz.prog.info? T).map (·.size)=some cells.size)
  (h:∀fr,fr.fn=f->Leaves Tryz.prog fr w (.returned (.tuple #[.agg cells,v]))->Z (G fr cs) w):ZR Z n (base f) cs e w:=by
 intro todo a ha;letI:Ctx Tryz.prog:=V1 Tryz.prog true;have h1:ends Tryz.prog fn (fun v' w'=>v'= .tuple #[.agg cells,v]/\w'=w) .ret e w:=ends.Jp0 (.inr rfl) hr he hT hu hs hB ⟨by rw[hu0],rfl⟩;obtain⟨_,v',h2,h3,h4⟩:=h1;subst h3;refine h _ rfl ⟨rfl,ha.defers,rfl,fn,hf,?_⟩;exact h2 _ ha.get
noncomputable def Kk0:Code:=match th0 with| .seq _ (.seq _ c)=>c|_=>.skip
theorem Fu0 {l:List Nat} (n:Nat) (h:l.length=n:=by rfl):decide (((n:Nat):Int)=0)=l.isEmpty:=by
 subst h;cases l <;> simp
 omega
theorem Qp0 {cl:List CB} {r:Nat->Bool} {m j i:Nat} (h:(rdl cl r m)[j]? =some i):∃c,cl[i]? =some c:=by
 have:=List.mem_of_getElem? h;simp only[rdl,List.mem_filter,Bool.and_eq_true]at this;cases hc:cl[i]? with
 |none=>rw[hc]at this;simp at this
 |some c=>exact⟨c,rfl⟩
theorem Fv0 {cl:List CB} {r:Nat->Bool} {m j i:Nat} {c:CB} (h:(rdl cl r m)[j]? =some i) (hc:cl[i]? =some c):((rdl cl r m).map (Fc0 cl))[j]? =some (.p c.cb):=by
 rw[List.getElem?_map,h];simp[Fc0,hc]
set_option maxRecDepth 20000 in
theorem Kl0 {rb0 m sn tb:Nat} {ba sa:Option Addr} {fv:Nat->Value} {sc:Nat->Int} {Bs:Nat} {Post:Value->World->Prop} {cs:List Frame} {JB J2 JE:Nat->Gh->Rn->World->Prop} {rr:Nat->Nat->Bool} (hE:Fs0 rb0 m sn tb ba sa fv sc Bs Post JB J2 JE rr) (hT:Kj0 m tb Post cs JE) {X:Gh} {R:Rn} {w:World} (hJ:JE m X R w) {e:Env} {ops:Array Oper} (s6:e 6= .p rb0) (s4:e 4= .p tb):ZA (Fin Tryz.prog Post {X with pend:=0,cap:=0,dn:=0} 0) 83 (base 48) cs e [.inRegion ops [],.code Kk0] w:=by
 obtain⟨hM,q9,hT0⟩:=hE.ck1 _ _ _ hJ;letI:Ctx Tryz.prog:=V1 Tryz.prog true;have hZ:Ctx.Zs Tryz.prog (Fin Tryz.prog Post {X with pend:=0,cap:=0,dn:=0} 0):=V3;have hb:=Z0 48;rw[<- q9]at s6;rw[V2 s6,V2 s4];clear s6 s4;refine ZA.k3 hZ ?_;refine U6 ?_;refine U269 ?_;refine L.va (G0 (cs:=[.slice R.ea R.evs.length R.ec,.slice R.na R.W2.length R.nc,.slice (pt R.eb) R.m R.m,.slice (pt R.wb) R.m R.m,.bool R.stuck,.i (R.used:Int)]) rfl Tryz.underlying30 rfl je0 rfl (hM.run.J1 rfl)) ?_;refine L.put (b:=tb) (o:=0) (s:=6) (vs:=[.slice R.ea R.evs.length R.ec,.slice R.na R.W2.length R.nc,.slice (pt R.eb) R.m R.m,.slice (pt R.wb) R.m R.m,.bool R.stuck,.i (R.used:Int)]) #[.slice R.ea R.evs.length R.ec,.slice R.na R.W2.length R.nc,.slice (pt R.eb) R.m R.m,.slice (pt R.wb) R.m R.m,.bool R.stuck,.i (R.used:Int)] rfl rfl rfl je0 rfl rfl hT0 (Nat.le_of_ble_eq_true rfl) rfl (fun w2 hB o3 n2=>?_);refine L.va (cb0 rfl) ?_;refine U2 ?_;refine ZA.ret hZ ?_;exact lg0 (u:=5) (v:=.i 0) Tryz.func48 rfl rfl rfl Tryz.underlying30 rfl hB je0 (fun fr h8 h9=>hT.ret X R w w2 fr hJ o3 h8 h9)
set_option maxRecDepth 20000 in
theorem vf0 {rb0 m sn tb:Nat} {ba sa:Option Addr} {fv:Nat->Value} {sc:Nat->Int} {Bs:Nat} {Post:Value->World->Prop} {cs:List Frame} {JB J2 JE:Nat->Gh->Rn->World->Prop} {rr:Nat->Nat->Bool} (hE:Fs0 rb0 m sn tb ba sa fv sc Bs Post JB J2 JE rr) (hT:Kj0 m tb Post cs JE) (hm1:m <=16) (_hs1:sn <=1000000) {n:Nat} {X:Gh} {R:Rn} {w:World} (hJ:J2 n X R w) (hn:n=sn\/rdl R.cl (rr n) m=[]) {e:Env} (s6:e 6= .p rb0) (s4:e 4= .p tb):ZA (Fin Tryz.prog Post X 0) 83 (base 48) cs e [.code th0] w:=by
 obtain⟨hM,q9,hlen,hBs,hev,hus,hpk,L9⟩:=hE.mem _ _ _ _ hJ;letI:Ctx Tryz.prog:=V1 Tryz.prog true;refine U196 ?_;intro hZ hb;rw[<- q9]at s6;rw[V2 s6,V2 s4];clear s6 s4;have hg:=hM.rg;refine U6 ?_;refine U284 ?_;refine L.call (M0 rfl Tryz.func79 rfl bt1 rfl) (xg0 R Bs w hM (by omega)) ?_;rintro _ w1 ⟨rfl,hw⟩;refine U28 ?_;by_cases Km0:R.cl.any (·.wt)=true
 ·rw[Km0];refine U171 ?_;refine L.call (M0 rfl Tryz.func77 rfl Wk0 rfl) (qe0 R Bs w hM (by omega) (rr n) (hE.rdy n X R w hJ)) ?_;rintro _ w2 ⟨la,lc,rfl,hO,I1⟩;rw[hlen];have hg:=hg.E0 I1;refine L.on rfl ?_;refine L.va (ba0 rfl Tryz.underlying151 rfl) ?_;refine U253 ?_;refine L.va (g7 rfl) ?_;refine U542 ?_;refine L.stR (o:=5) (vs:=[.bool (decide ((((rdl R.cl (rr n) m).length:Nat):Int)=0))]) hg (decide ((((rdl R.cl (rr n) m).length:Nat):Int)=0)) R.used rfl rfl rfl sz4 rfl rfl (by decide) rfl (fun w hg o3=>?_);clear o3;refine U2 ?_;have hJE:=hE.toE n X R _ w _ hJ hn (by rw[Km0,Bool.true_and];exact Fu0 _) hg;refine ZA.seq hZ ?_;refine ZA.upto hZ hb 1 rfl rfl (R:=fun e' w'=>ZA _ _ _ _ e' _ w') ?_ (fun _ _ h=>h);refine U110 ?_;refine U489 ?_;intro a ha;rw[q9];refine Ab0 (hE.en R.ca R.cc _ (fun X' R' u hJ' hca hcc fr h8 h9=>?_)) (by omega) ⟨hJE,rfl,rfl⟩;exact U553
 ·rw[show R.cl.any (·.wt)=false by simpa using Km0];refine U232 ?_;refine U542 ?_;refine L.stR (o:=5) (vs:=[.bool false]) hg false R.used rfl rfl rfl sz4 rfl rfl (by decide) rfl (fun w hg o3=>?_);clear o3;refine U2 ?_;have hJE:=hE.toE n X R _ w _ hJ hn (by rw[show R.cl.any (·.wt)=false by simpa using Km0];rfl) hg;refine ZA.seq hZ ?_;refine ZA.upto hZ hb 1 rfl rfl (R:=fun e' w'=>ZA _ _ _ _ e' _ w') ?_ (fun _ _ h=>h);refine U110 ?_;refine U489 ?_;intro a ha;rw[q9];refine Ab0 (hE.en R.ca R.cc _ (fun X' R' u hJ' hca hcc fr h8 h9=>?_)) (by omega) ⟨hJE,rfl,rfl⟩;exact U553
set_option maxRecDepth 20000 in
theorem Fw0 {rb0 m sn tb:Nat} {ba sa:Option Addr} {fv:Nat->Value} {sc:Nat->Int} {Bs:Nat} {Post:Value->World->Prop} {cs:List Frame} {JB J2 JE:Nat->Gh->Rn->World->Prop} {rr:Nat->Nat->Bool} (hE:Fs0 rb0 m sn tb ba sa fv sc Bs Post JB J2 JE rr) (hT:Kj0 m tb Post cs JE) (hm1:m <=16) (hs1:sn <=1000000) {scp:Nat}:∀(k n:Nat),n+k=sn->∀X R w,J2 n X R w->∀e:Env,e 6= .p rb0->e 39= .slice sa sn scp->e 40= .i (sn:Int)->e 41= .i (n:Int)->e 4= .p tb->e 1= .slice sa sn scp->ZA (Fin Tryz.prog Post X 0) 83 (base 48) cs e [.code Ad0,.inLoop Ad0,.inBlock 0,.code th0] w:=by
 intro k
 induction k with
 |zero=>
  intro n hk X R w hJ e s6 s39 s40 s41 s4 s1;obtain⟨hM,q9,hlen,hBs,hev,hus,hpk,L9⟩:=hE.mem _ _ _ _ hJ;letI:Ctx Tryz.prog:=V1 Tryz.prog true;refine U196 ?_;intro hZ hb;rw[<- q9]at s6;refine U493 ?_;refine U65 ?_;refine U266 ?_;obtain rfl:n=sn:=by omega
  exact vf0 hE hT hm1 hs1 hJ (.inl rfl) (by rw[<- q9];rfl) rfl
 |succ k ih=>
  intro n hk X R w hJ e s6 s39 s40 s41 s4 s1;obtain⟨hM,q9,hlen,hBs,hev,hus,hpk,L9⟩:=hE.mem _ _ _ _ hJ;letI:Ctx Tryz.prog:=V1 Tryz.prog true;refine U196 ?_;intro hZ hb;rw[<- q9]at s6;refine U493 ?_;have T2:n<sn:=by omega
  refine U65 ?_;refine U276 ?_;refine U205 ?_;refine L.va (bc0 (i:=n) rfl rfl Tryz.underlying23 sz3 hE.ssl T2) ?_;refine L.va (F0 (v:=.i (sc n)) rfl Tryz.underlying3 rfl (L9 n T2)) ?_;refine L.va (cb0 rfl) ?_;refine U308 ?_;refine L.call (M0 rfl Tryz.func77 rfl Wk0 rfl) (qe0 R Bs w hM (by omega) (rr n) (hE.rdy n X R w hJ)) ?_;rintro _ w2 ⟨la,lc,rfl,hO,I1⟩;rw[hlen]at hO⊢;have hJ:=hE.E0 n X R w w2 hJ I1;clear hM hBs L9 I1;clear hev hus hpk;obtain⟨hM,_,_,hBs,hev,hus,hpk,L9⟩:=hE.mem _ _ _ _ hJ;refine L.va (cc0 rfl) ?_;refine U17 ?_;refine U574 ?_;refine L.va (N4 rfl rfl) ?_;refine U2 ?_;by_cases hnl:(rdl R.cl (rr n) m).length=0
  ·refine ZA.J4 hZ (rb (decide_eq_true (by omega))) ?_;refine ZA.exit hZ rfl ?_;exact vf0 hE hT hm1 hs1 hJ (.inr (List.eq_nil_of_length_eq_zero hnl)) (by rw[<- q9];rfl) rfl
  ·refine ZA.v5 hZ (rb (decide_eq_false (by omega))) ?_;refine ZA.skip hZ ?_;refine U574 ?_;refine L.va (cb0 rfl) ?_;refine U2 ?_;have hln:(rdl R.cl (rr n) m).length <=16:=Nat.le_trans (xf0 m) hm1;have htb:=Ki0 (sc n) (n:=(rdl R.cl (rr n) m).length) (by omega) (by omega);have B9:=Br0 (sc n) (n:=(rdl R.cl (rr n) m).length) (by omega);obtain⟨i,hi⟩:∃i,(rdl R.cl (rr n) m)[M9 (sc n) (rdl R.cl (rr n) m).length]? =some i:=⟨_,List.getElem?_eq_getElem B9⟩
   obtain⟨c,hc⟩:=Qp0 hi;refine ZA.upto hZ hb 11 rfl rfl (R:=fun e' w'=>ZA _ _ _ _ e' _ w') ?_ (fun _ _ h=>h);refine U110 ?_;refine U585 ?_;refine L.va (C5 rfl) ?_;refine L.va (pc0 rfl rfl (by omega)) ?_;refine L.va (C5 rfl) ?_;refine L.va (ko0 rfl rfl (by omega)) ?_;refine L.va (C5 rfl) ?_;refine L.va (v:=.i ((M9 (sc n) (rdl R.cl (rr n) m).length:Nat):Int)) (by rw[<- cj1 (sc n) (n:=(rdl R.cl (rr n) m).length) (by omega)];exact pc0 rfl rfl (by omega)) ?_;refine L.va (bc0 (i:=M9 (sc n) (rdl R.cl (rr n) m).length) rfl rfl Tryz.underlying151 Eq0 hO.sl B9) ?_;refine L.va (F0 (v:=.p c.cb) rfl Tryz.underlying91 rfl (by rw[hO.off,Nat.zero_add,Nat.mul_one];exact hO.cell (Fv0 hi hc))) ?_;refine U2 ?_;obtain⟨g,z1,me1,G8,hX0,J8,S2,hsh,n6⟩:=hE.pick n X R w2 i c hJ T2 hi hc;refine ZA.call (i:=11) (rest:=[]) hZ hb (f:=78) (args:=#[.p R.rb,.p c.cb]) rfl rfl (n3 rfl rfl Tryz.func78 rfl bs1 rfl) (fun a ha=>?_);refine Fo0 hM.rg hBs hc hev (hpk i c hc) hus G8 hX0 J8 S2 hsh (fun w' a' nn me0 hg hme=>n6 w' a' nn me0 hg (fun X' R' u v hJ'=>hme _ V3 u v fun fr h8 h9=>?_));refine ZA.back (am0 Tryz.prog Post X' 0) (i:=11) rfl rfl ha h9 ?_;have hZ:Ctx.Zs Tryz.prog (Fin Tryz.prog Post X' 0):=V3;refine U285 ?_;refine U122 ?_;exact ih (n+1) (by omega) X' R' u hJ' _ (by rw[<- q9];rfl) rfl rfl rfl rfl rfl
end
section
attribute [local irreducible] KK
theorem Fx0 (m:Nat):(Array.replicate (m*1) (Value.i 0))=((List.replicate m (0:Int)).map (Value.int .i64)).toArray:=by
 rw[Nat.mul_one];apply Array.toList_inj.1;simp
theorem Fy0 (m:Nat):(Array.replicate (m*3) (Value.i 0))=((List.replicate m sp0).flatMap spC).toArray:=by
 apply Array.toList_inj.1;simp only[Array.toList_replicate]
 induction m with
 |zero=>rfl
 |succ m ih=>
  rw[List.replicate_succ,List.flatMap_cons,<- ih,Nat.succ_mul,Nat.add_comm (m*3) 3,<- List.replicate_append_replicate];rfl
structure Nv0 (w0 w:World) (rb yb eb wb tb m:Nat):Prop where
 mem:H4 w w0.heap.size (rn0 rb yb eb wb m)
 low:Below w0.heap.size w0 w
 le:w0.heap.size <=rb/\w0.heap.size <=yb/\w0.heap.size <=eb/\w0.heap.size <=wb/\w0.heap.size <=tb
 yb:w.heap[yb]? =some nothing
 tb:O1 w tb #[.slice none 0 0,.slice none 0 0,.slice none 0 0,.slice none 0 0,.bool false,.i 0] 30 (0,0)
theorem Xp0 (x0:Option Nat):Tryz.prog.built 153 [(2,.chan x0)]=some #[.slice none 0 0,.slice none 0 0,.slice none 0 0,.slice none 0 0,.slice none 0 0,.bool false,.i 0,.chan x0,.int .u64 0,.int .u32 0]:=by kernel_rfl
set_option maxRecDepth 20000 in
theorem Kn0 {ba sa:Option Addr} {m bc sn scp:Nat} {fv:Nat->Value} {sc:Nat->Int} {Post:Value->World->Prop} {cs:List Frame} {X:Gh} {w0:World} (hm1:m <=16) (hs1:sn <=262144) (hU:X.W8 w0.heap.size) (B9:∀b,w0.heap.size <=b->X.D4 b= .all) (cm0:X.cap=0)
  (Xq0:∀w4 rb yb eb wb tb,Nv0 w0 w4 rb yb eb wb tb m->∃JB J2 JE rr,Fs0 rb m sn tb ba sa fv sc w0.heap.size Post JB J2 JE rr/\Kj0 m tb Post cs JE/\JB 0 (tg0 X rb yb 8) (rn0 rb yb eb wb m) w4) :
  Fin Tryz.prog Post X 0 (G (Frame.enter Tryz.prog 48 #[.slice ba m bc,.slice sa sn scp] .normal) cs) w0:=by
 letI:Ctx Tryz.prog:=V1 Tryz.prog true;refine U196 ?_;intro hZ hb;rw[enter_at _ Tryz.func48 rfl];refine(?_:ZA (Fin Tryz.prog Post X 0) 83 (base 48) cs (Vc.Q6 #[.slice ba m bc,.slice sa sn scp]) [.code (Tryz.f48.body.getD .skip)] w0) _ (L5 _ _ rfl);have hb0:Below w0.heap.size w0 w0:=Below.refl _ _;refine U6 ?_;refine L.alloc (cs:=#[.slice none 0 0,.slice none 0 0,.slice none 0 0,.slice none 0 0,.bool false,.i 0]) Jy0 rfl (fun w b4 F4=>?_);have N8:=F4.lq hb0.size;have hb0:=N0 hb0 F4.below;have L1:=F4.blk;refine L.va (cb0 rfl) ?_;refine U17 ?_;refine U579 ?_;refine L.va (ui0 rfl rfl) ?_;refine U568 ?_;refine U163 ?_;refine U578 ?_;refine L.va (ui0 rfl rfl) ?_;refine U568 ?_;refine ZA.skip hZ ?_;refine U6 ?_;refine L.makeChan rfl Tryz.underlying150 ⟨_,sz3⟩ (fun w1 I1 X5 Qq0=>?_);obtain⟨yb,hyb⟩:∃yb,yb=w.heap.size:=⟨_,rfl⟩
 have Qr0:w0.heap.size <=yb:=by rw[hyb];exact hb0.size
 rw[<- hyb]at X5⊢;have hb0:=N0 hb0 I1;have L1:=L1.E0 I1;clear I1 Qq0 hyb
 rename World=>w
 refine L.va (W0 (parts:=[(2,.tmp 19)]) rfl (Xp0 (some yb))) ?_;refine L.box (cs:=#[.slice none 0 0,.slice none 0 0,.slice none 0 0,.slice none 0 0,.slice none 0 0,.bool false,.i 0,.chan (some yb),.int .u64 0,.int .u32 0]) rfl rfl (fun w b21 F21=>?_);have Fz0:=F21.lq hb0.size;have hb0:=N0 hb0 F21.below;have L1:=L1.E0 F21.below;have X5:=X5.E0 F21.below;have at0:=F21.blk;refine L.va (kl0 rfl) ?_;refine U308 ?_;refine U554 ?_;refine L.make (m:=m) rfl rfl Tryz.underlying23 in3 (z0:=.i 0) rfl (by decide) (by omega) (by omega) (fun w b25 F25=>?_);have cl1:=F25.lq hb0.size;have hb0:=N0 hb0 F25.below;have L1:=L1.E0 F25.below;have X5:=X5.E0 F25.below;have at0:=at0.E0 F25.below;have he0:=F25.blk;have he0:V0 w b25 (Array.replicate (m*1) (.i 0)) 3:=he0;refine U106 ?_;refine L.va (O0 rfl Tryz.underlying30 rfl Jw0 (by decide)) ?_;refine L.pu 3 [.slice (pt b25) m m] #[.slice none 0 0,.slice none 0 0,.slice none 0 0,.slice (pt b25) m m,.slice none 0 0,.bool false,.i 0,.chan (some yb),.int .u64 0,.int .u32 0] Jw0 at0 (fun w B1 hg n2=>?_);refine U551 ?_;intro L1 X5;have he0:=he0.other hg (V0.ne he0 at0 (by decide));have hb0:=K4 hb0 hb0.size hg Fz0;have G5:=True.intro;have at0:=B1;clear G5;refine U308 ?_;refine U554 ?_;refine L.make (m:=m) rfl rfl Tryz.underlying28 av1 (z0:=.i 0) rfl (by decide) (by omega) (by omega) (fun w b32 F32=>?_);have cm1:=F32.lq hb0.size;have hb0:=N0 hb0 F32.below;have L1:=L1.E0 F32.below;have X5:=X5.E0 F32.below;have at0:=at0.E0 F32.below;have he0:=he0.E0 F32.below;have Bs0:=F32.blk;have Bs0:V0 w b32 (Array.replicate (m*3) (.i 0)) 47:=Bs0;refine U106 ?_;refine L.va (O0 rfl Tryz.underlying30 rfl Px0 (by decide)) ?_;refine L.pu 4 [.slice (pt b32) m m] #[.slice none 0 0,.slice none 0 0,.slice none 0 0,.slice (pt b25) m m,.slice (pt b32) m m,.bool false,.i 0,.chan (some yb),.int .u64 0,.int .u32 0] Px0 at0 (fun w B1 hg n2=>?_);refine U551 ?_;intro L1 X5;have he0:=he0.other hg (V0.ne he0 at0 (by decide));have Bs0:=Bs0.other hg (V0.ne Bs0 at0 (by decide));have hb0:=K4 hb0 hb0.size hg Fz0;have G5:=True.intro;have at0:=B1;clear G5;refine U2 ?_;have at0:V0 w b21 (#[.slice none 0 0,.slice none 0 0,.slice none 0 0,.slice (pt b25) m m,.slice (pt b32) m m,.bool false,.i 0,.chan (some yb)] ++ #[.int .u64 0,.int .u32 0]) 153:=at0;have r3:yb≠b21:=fun e=>by subst e;unfold ChanAt at X5;unfold V0 at at0;rw[X5]at at0;cases at0
 refine ZA.begin cm0 (hU.mono Fz0) (hU.mono Qr0) (B9 _ Fz0) (B9 _ Qr0) X5 at0 (Nat.zero_lt_succ _) rfl ?_;show ZA (Fin Tryz.prog Post (tg0 X b21 yb 8) 0) _ _ _ _ _ (P1 (O2 w yb nothing) b21 _ _ (7,8));have hX:X.W8 w0.heap.size:=hU;have hap:∀(b:Nat) (cs:Array Value) (T:TypeId),V0 w b cs T->T≠153->O1 (P1 (O2 w yb nothing) b21 #[.slice none 0 0,.slice none 0 0,.slice none 0 0,.slice (pt b25) m m,.slice (pt b32) m m,.bool false,.i 0,.chan (some yb)] 153 (7,8)) b cs T (0,0):=fun b cs T h hT=>by
  have h1:b≠b21:=V0.ne h at0 hT;have h2:yb≠b:=fun e=>by subst e;unfold ChanAt at X5;unfold V0 at h;rw[X5]at h;cases h
  unfold O1;rw[Y6 h1,c5 _ _ h2];exact h
 have cn1:Nv0 w0 (P1 (O2 w yb nothing) b21 #[.slice none 0 0,.slice none 0 0,.slice none 0 0,.slice (pt b25) m m,.slice (pt b32) m m,.bool false,.i 0,.chan (some yb)] 153 (7,8)) b21 yb b25 b32 b4 m:=by
  have n2:b21<(O2 w yb nothing).heap.size:=by have:=at0.lt;simpa [O2]using this
  refine⟨⟨?_,Own.nil _ _ _ _,Own.nil _ _ _ _,Own.nil _ _ _ _,?_,?_,by simp[rn0],by simp[rn0],Nat.zero_le _,fun i c hc=>by simp[rn0]at hc⟩,⟨hb0.os,hb0.tape,hb0.output,by rw[w5];simpa [O2]using hb0.size,fun k hk=>?_⟩,⟨Fz0,Qr0,cl1,cm1,N8⟩,?_,hap _ _ _ L1 (by decide)⟩
  ·simp[O1,P1,n2,rn0,Rn.cells]
  ·have:=hap _ _ _ he0 (by decide);rw[Fx0]at this;exact this
  ·have:=hap _ _ _ Bs0 (by decide);rw[Fy0]at this;exact this
  ·rw[Y6 (by omega),c5 _ _ (by omega)];exact hb0.block k hk
  ·rw[Y6 r3];exact K6 w X5
 obtain⟨JB,J2,JE,rr,hE,hT,hJ0⟩:=Xq0 _ _ _ _ _ _ cn1;generalize P1 (O2 w yb nothing) b21 #[.slice none 0 0,.slice none 0 0,.slice none 0 0,.slice (pt b25) m m,.slice (pt b32) m m,.bool false,.i 0,.chan (some yb)] 153 (7,8)=w4 at *;have hZ:Ctx.Zs Tryz.prog (Fin Tryz.prog Post (tg0 X b21 yb 8) 0):=V3;refine ZA.seq hZ ?_;refine ZA.upto hZ hb 2 rfl rfl (R:=fun e' w'=>ZA _ _ _ _ e' _ w') ?_ (fun _ _ h=>h);refine U110 ?_;refine L.va (az0 rfl) ?_;refine U2 ?_;refine ZA.call (i:=2) (rest:=[]) hZ hb (f:=76) (args:=#[.p b21,.slice ba m bc]) rfl rfl (n3 rfl rfl Tryz.func76 rfl br1 rfl) (fun a ha=>?_);refine Kh0 (hE.beg _ (fun X' R' u hJ' fr h8 h9=>?_)) (by omega) hJ0;have hZ:Ctx.Zs Tryz.prog (Fin Tryz.prog Post X' 0):=V3;refine ZA.back (am0 Tryz.prog Post X' 0) (i:=2) rfl rfl ha h9 ?_;refine U267 ?_;refine U578 ?_;refine U135 ?_;exact Fw0 hE hT hm1 (by omega) sn 0 (by omega) X' R' u (hE.b2s _ _ _ hJ') _ rfl rfl rfl rfl rfl rfl
end
end Go.Vy.Sc
end
section
namespace Go.Vy.Sc
open Go Go.Conc Go.Yc Go.RowKit Go.Proofs Go.Proofs.YtnifpkopeheodaaGreat Try
open Go.Vc Go.Wg
attribute [local irreducible] KK
structure Sys where
 S:Type
 L:Type
 m:Nat
 s0:S
 nil:Nat->Bool
 stp:Nat->L->Stp
 rdy:Nat->L->S->Bool
 beg:Nat->S->fv0 S L
 go:Nat->L->S->fv0 S L
 le:Nat->Gm->Gm->Prop
 Inv:S->Gm->World->(Nat->Prop)->Prop
 lb:Nat
 pl:Nat->j6
structure PR (Y:Sys) where
 s:Y.S
 ft:List (Y.L ⊕ Nat)
 evs:List (Nat×Stp)
 W2:List (Nat×Nat×Nte)
 outs:List (fv0 Y.S Y.L)
 who:List (Option Nat)
 used:Nat
def tell (i n:Nat) (l:List Nte):List (Nat×Nat×Nte):=l.map fun k=>(n,i,k)
namespace Sys
section
variable (Y:Sys)
def p0:PR Y:=⟨Y.s0,[],[],[],[],[],0⟩
def bgn (p:PR Y):PR Y:=if Y.nil p.ft.length then{p with ft:=p.ft ++ [.inr 1]} else
 {p with s:=(Y.beg p.ft.length p.s).s,ft:=p.ft ++ [(Y.beg p.ft.length p.s).k8],W2:=p.W2++tell p.ft.length p.evs.length (Y.beg p.ft.length p.s).W2,outs:=p.outs ++ [Y.beg p.ft.length p.s],who:=p.who ++ [none]}
def P4:Nat->PR Y
 |0=>Y.p0
 |n+1=>Y.bgn (P4 n)
def P5 (p:PR Y) (i:Nat):PR Y:=match p.ft[i]? with
 |some (.inl l)=>{p with s:=(Y.go i l p.s).s,ft:=p.ft.set i (Y.go i l p.s).k8,evs:=p.evs ++ [(i,Y.stp i l)],W2:=p.W2++tell i (p.evs.length+1) (Y.go i l p.s).W2,outs:=p.outs ++ [Y.go i l p.s],who:=p.who ++ [some i],used:=p.used+1}
 |_=>p
def eh0 (p:PR Y) (i:Nat):Bool:=match p.ft[i]? with
 |some (.inl l)=>Y.rdy i l p.s
 |_=>false
def rds (p:PR Y):List Nat:=(List.range Y.m).filter (Y.eh0 p)
def step (p:PR Y) (e:Int):PR Y:=match(Y.rds p)[M9 e (Y.rds p).length]? with
 |some i=>Y.P5 p i
 |none=>p
def pn (sc:Nat->Int):Nat->PR Y
 |0=>Y.P4 Y.m
 |n+1=>Y.step (pn sc n) (sc n)
def o0:fv0 Y.S Y.L:=⟨Y.s0,[],.inr 0⟩
def u4 (q:PR Y) (t:Nat):fv0 Y.S Y.L:=(q.outs[t]?).getD Y.o0
def sAt (q:PR Y):Nat->Y.S
 |0=>Y.s0
 |t+1=>(Y.u4 q t).s
def W1 (q:PR Y) (i t:Nat):Nat:=(q.who.take (t+1)).count (some i)
structure Le (p q:PR Y):Prop where
 outs:p.outs <+: q.outs
 who:p.who <+: q.who
theorem Le.refl (p:PR Y):Y.Le p p:=⟨List.prefix_refl _,List.prefix_refl _⟩
variable {Y}
theorem Le.trans {p q r:PR Y} (h:Y.Le p q) (h':Y.Le q r):Y.Le p r:=⟨h.outs.trans h'.outs,h.who.trans h'.who⟩
theorem Qs0 (p:PR Y):Y.Le p (Y.bgn p):=by
 unfold bgn;split
 ·exact⟨List.prefix_refl _,List.prefix_refl _⟩
 ·exact⟨List.prefix_append _ _,List.prefix_append _ _⟩
theorem Ko0 (p:PR Y) (i:Nat):Y.Le p (Y.P5 p i):=by
 unfold P5;split
 ·exact⟨List.prefix_append _ _,List.prefix_append _ _⟩
 ·exact Le.refl Y p
theorem le_step (p:PR Y) (e:Int):Y.Le p (Y.step p e):=by
 unfold step;split
 ·exact Ko0 p _
 ·exact Le.refl Y p
theorem Kp0 {n k:Nat}:Y.Le (Y.P4 n) (Y.P4 (n+k)):=by
 induction k with
 |zero=>exact Le.refl Y _
 |succ k ih=>exact ih.trans (Qs0 _)
theorem Nw0 {sc:Nat->Int} {n k:Nat}:Y.Le (Y.pn sc n) (Y.pn sc (n+k)):=by
 induction k with
 |zero=>exact Le.refl Y _
 |succ k ih=>exact ih.trans (le_step _ _)
structure Ok (p:PR Y):Prop where
 s:p.s=Y.sAt p p.outs.length
 who:p.who.length=p.outs.length
 used:p.evs.length=p.used
theorem Qt0 {p q:PR Y} (h:Y.Le p q) {t:Nat} (ht:t <=p.outs.length):Y.sAt q t=Y.sAt p t:=by
 cases t with
 |zero=>rfl
 |succ t=>
  obtain⟨l,hl⟩:=h.outs;show(Y.u4 q t).s=(Y.u4 p t).s;unfold u4;rw[<- hl,List.getElem?_append_left (by omega)]
theorem Xr0:Ok (Y.p0):=⟨rfl,rfl,rfl⟩
theorem Ae0 (p:PR Y) (o:fv0 Y.S Y.L) {q:PR Y} (hq:q.outs=p.outs ++ [o]):Y.sAt q (p.outs.length+1)=o.s:=by
 show(Y.u4 q p.outs.length).s=o.s;unfold u4;rw[hq];simp
theorem Ok.bgn {p:PR Y} (h:Ok p):Ok (Y.bgn p):=by
 unfold Sys.bgn;split
 ·exact⟨h.s,h.who,h.used⟩
 ·refine⟨?_,by simp[h.who],h.used⟩;simp only[List.length_append,List.length_cons,List.length_nil,Nat.zero_add];exact(Ae0 p _ rfl).symm
theorem Ok.P5 {p:PR Y} (h:Ok p) (i:Nat):Ok (Y.P5 p i):=by
 unfold Sys.P5;split
 ·refine⟨?_,by simp[h.who],by simp[h.used]⟩;simp only[List.length_append,List.length_cons,List.length_nil,Nat.zero_add];exact(Ae0 p _ rfl).symm
 ·exact h
theorem Ok.step {p:PR Y} (h:Ok p) (e:Int):Ok (Y.step p e):=by
 unfold Sys.step;split
 ·exact h.P5 _
 ·exact h
theorem ti0:∀n,Ok (Y.P4 n)
 |0=>Xr0
 |n+1=>(ti0 n).bgn
theorem vg0 (sc:Nat->Int):∀n,Ok (Y.pn sc n)
 |0=>ti0 _
 |n+1=>(vg0 sc n).step _
theorem Kq0 {p q:PR Y} (h:Ok p) (hl:Y.Le p q):Y.sAt q p.outs.length=p.s:=by rw[Qt0 hl (Nat.le_refl _),h.s]
theorem Ga0 {p q:PR Y} {o:fv0 Y.S Y.L} {p':PR Y} (hp:p'.outs=p.outs ++ [o]) (hl:Y.Le p' q):Y.u4 q p.outs.length=o:=by
 obtain⟨l,hl⟩:=hl.outs;unfold u4;rw[<- hl,hp,List.append_assoc,List.getElem?_append_right (Nat.le_refl _)];simp
theorem M5:∀n,(Y.P4 n).ft.length=n
 |0=>rfl
 |n+1=>by
  show(Y.bgn (Y.P4 n)).ft.length=n+1;unfold bgn;split <;> simp[M5 n]
theorem Gb0 (p:PR Y) (i:Nat):(Y.P5 p i).ft.length=p.ft.length:=by
 unfold P5;split <;> simp
theorem Gc0 (p:PR Y) (e:Int):(Y.step p e).ft.length=p.ft.length:=by
 unfold step;split
 ·exact Gb0 p _
 ·rfl
def Reach (Y:Sys) (p:PR Y):Prop:=(∃n,n <=Y.m/\p=Y.P4 n)\/∃sc n,p=Y.pn sc n
theorem N9 (sc:Nat->Int):∀n,(Y.pn sc n).ft.length=Y.m
 |0=>M5 _
 |n+1=>(Gc0 _ _).trans (N9 sc n)
end
end Sys
structure LeOk (Y:Sys):Prop where
 refl:∀i a,Y.le i a a
 trans:∀i a b c,Y.le i a b->Y.le i b c->Y.le i a c
noncomputable def Sys.cfg (Y:Sys) (fb:Nat->FuncId) (q:PR Y) (w0:World) (i cb:Nat) (top:List Frame):K8 Tryz.prog where
 S:=Y.S
 L:=Y.L
 stp:=Y.stp i
 rdy:=Y.rdy i
 go:=Y.go i
 out:=Y.u4 q
 sOf:=Y.sAt q
 W1:=Y.W1 q i
 le:=Y.le i
 gu:=fun a b=>∀j,j≠i->Y.le j a b
 Inv:=Y.Inv
 At:=fun t l=>t <=300000/\∃p:PR Y,Y.Reach p/\p.outs.length=t/\p.s=Y.sAt q t/\p.ft[i]? =some (.inl l)
 BAt:=fun t=>t <=300000/\∃p:PR Y,Y.Reach p/\p.outs.length=t/\p.s=Y.sAt q t/\p.ft.length=i
 num:=i
 ptr:=cb
 base:=w0
 ip0:=83
 Mz0:=none
 M3:=47
 Ec0:=none
 Ed0:=fb i
 top:=top
structure R9 where
 gm:Gm
 gi:Nat->Nat
 ab:Nat->Nat
 eb:Nat->Nat
 top:Nat->List Frame
 pv:Nat->Nat->Prop
section
variable (Y:Sys)(fb:Nat->FuncId)(q:PR Y)(w0:World)(Γ:R9)(X:Gh)(R:Rn)(w:World)
structure Wt (j:Nat) (c:CB) (l:Y.L):Prop where
 wt:c.wt=true
 st:c.st=false
 sp:c.sp=Y.stp j l
 he:O1 w (Γ.eb j) #[.bool false] 4 (0,0)
 node:∃(me:Goroutine) (cs:List Frame) (wn:World) (mn:Gm) (Fn:Nat->Prop) (Rdo:World->World->Prop),X.G1 (Γ.gi j)=some ⟨c.rc,.bool false,me⟩/\le0 cs c.cb c.df me/\(Y.cfg fb q w0 j c.cb (Γ.top j)).bw0 wn mn Fn c.rf l/\FnV Tryz.prog c.df /\
  (∀b,Γ.pv j b↔b<wn.heap.size/\wn.heap[b]? ≠some nothing/\¬Fn b)/\(∀b,Γ.pv j b->w.heap[b]? =wn.heap[b]?)/\wn.os=w0.os/\wn.output=w0.output/\wn.heap.size <=w.heap.size/\Y.le j mn Γ.gm /\
  (∀u F',(Y.cfg fb q w0 j c.cb (Γ.top j)).Goes wn mn Fn l u F'->Bj0 Tryz.prog (Y.cfg fb q w0 j c.cb (Γ.top j)).y4 c.df u (Rdo u)) /\
  (∀u F' u2,(Y.cfg fb q w0 j c.cb (Γ.top j)).Goes wn mn Fn l u F'->Rdo u u2->u2.tape=u.tape->∀fr,fr.fn=83->Leaves Tryz.prog fr u2 (.returned (.tuple #[]))->l8 (Y.cfg fb q w0 j c.cb (Γ.top j)) (G fr cs) u2) /\
  (∀u F',(Y.cfg fb q w0 j c.cb (Γ.top j)).g5 wn mn Fn u F'->gh u 2=1->∀fr ch,fr.fn=83->as0 ch->Leaves Tryz.prog fr u (.panicked ch)->l8 (Y.cfg fb q w0 j c.cb (Γ.top j)) (G fr cs) u)
structure Ck (j:Nat) (c:CB):Prop where
 top:Fl0 (Γ.top j) (Γ.ab j) (Γ.eb j) R.rb c.cb
 ha:O1 w (Γ.ab j) #[.p c.cb] 91 (0,0)
 he:∃en,O1 w (Γ.eb j) #[.bool en] 4 (0,0)
 bo0:0<Γ.gi j/\Γ.gi j<X.n
 stay:X.stay (Γ.gi j)=[(⟨c.cb,2,none⟩,.chan (some c.rc))]
 ch:X.I7 c.rc
def Cl1 (j:Nat) (c:CB) (f:Y.L ⊕ Nat):Prop :=
 (Y.nil j=true/\f= .inr 1/\c.wt=false/\R.ends[j]? =some 1)\/(Y.nil j=false/\match f with
  | .inl l=>Wt Y fb q w0 Γ X w j c l
  | .inr x=>c.wt=false/\R.ends[j]? =some (x:Int)/\X.G1 (Γ.gi j)=none)
variable (Mn:Nat->Option Obj)
structure Qu0:Prop where
 le:Y.lb <=w0.heap.size
 low:∀b,X.low b->Y.lb <=b
 pl:X.D4=Y.pl
structure Fix (hold:Option Nat) (ft:Nat->Option (Y.L ⊕ Nat)):Prop where
 mem:H4 w w0.heap.size R
 m:R.m=Y.m
 cl:∀j c,R.cl[j]? =some c->some j≠hold->∃f,ft j=some f/\Cl1 Y fb q w0 Γ X R w j c f
 ck:∀j c,R.cl[j]? =some c->Y.nil j=false->Ck Γ X R w j c
 fpB:∀b,R.fp b->w0.heap.size <=b
 side:∀j,j<R.cl.length->Y.nil j=false->w0.heap.size <=Γ.ab j/\w0.heap.size <=Γ.eb j/\¬R.fp (Γ.ab j)/\¬R.fp (Γ.eb j)
 pv:∀j b,Γ.pv j b->b<w.heap.size/\¬R.fp b/\¬Mn b≠none/\(∀k,k<R.cl.length->Y.nil k=false->b≠Γ.ab k/\b≠Γ.eb k)/\∀k,k≠j->¬Γ.pv k b
 mn:∀b,Mn b≠none->w.heap[b]? =Mn b/\¬R.fp b/\∀k,k<R.cl.length->Y.nil k=false->b≠Γ.ab k/\b≠Γ.eb k
 fz0:0<X.n
 os:hold=none->w.os=w0.os
 output:hold=none->w.output=w0.output
 size:w0.heap.size <=w.heap.size
 L2:X.L2=some ⟨R.rb,8⟩
 is0:X.stay 0=[(⟨R.rb,7,none⟩,.chan (some R.yb))]
 chy:X.I7 R.yb
 R3:∀g s,g≠0->X.G1 g=some s->∃j c,R.cl[j]? =some c/\Y.nil j=false/\g=Γ.gi j/\s.ch=c.rc/\some j≠hold
 xk0:∀j k,j<R.cl.length->k<R.cl.length->Y.nil j=false->Y.nil k=false->Γ.gi j=Γ.gi k->j=k
 qr0:∀j k,j<R.cl.length->k<R.cl.length->Y.nil j=false->Y.nil k=false->Γ.eb j=Γ.eb k->j=k
 Bt0:∀j k c d,R.cl[j]? =some c->R.cl[k]? =some d->Y.nil j=false->Y.nil k=false->c.rc=d.rc->j=k
 ry:∀j c,R.cl[j]? =some c->Y.nil j=false->c.rc≠R.yb
 dn:X.dn=0
 pend:X.pend=0
 cap:X.cap <=R.cl.length
 under:X.W8 w.heap.size
 D4:∀b,w.heap.size <=b->X.D4 b= .all
 lh0:hold=none->X.G1 0=none
 base:Qu0 Y w0 X
end
section
variable {Y:Sys}{fb:Nat->FuncId}{q:PR Y}{Γ Γ':R9}{X X':Gh}{R R':Rn}{w w':World}{Mn:Nat->Option Obj}{w0:World}{hold:Option Nat}{ft:Nat->Option (Y.L ⊕ Nat)}
def Kept (Y:Sys) (Γ:R9) (R:Rn) (Mn:Nat->Option Obj) (b:Nat):Prop:=Mn b≠none\/(∃k,k<R.cl.length/\Y.nil k=false/\(b=Γ.ab k\/b=Γ.eb k))\/∃j,Γ.pv j b
theorem Wt.P5 {j:Nat} (hle:∀a b c,Y.le j a b->Y.le j b c->Y.le j a c) (hgm:Y.le j Γ.gm Γ'.gm) {c:CB} {l:Y.L} (h:Wt Y fb q w0 Γ X w j c l) (hb:∀b,Γ.pv j b->w'.heap[b]? =w.heap[b]?) (n2:w.heap.size <=w'.heap.size) (hs:X'.G1 (Γ.gi j)=X.G1 (Γ.gi j)) (he:w'.heap[Γ.eb j]? =w.heap[Γ.eb j]?) (hge:Γ'.eb j=Γ.eb j) (hg:Γ'.gi j=Γ.gi j) (ht:Γ'.top j=Γ.top j) (hp:Γ'.pv j=Γ.pv j):Wt Y fb q w0 Γ' X' w' j c l:=by
 obtain⟨h1,h2,h3,h4,me,cs,wn,mn,Fn,Rdo,a1,a2,a3,a4,a5,a6,a7,a8,a9,ale,a10,a11,a12⟩:=h;refine⟨h1,h2,h3,by rw[hge];exact he.trans h4,me,cs,wn,mn,Fn,Rdo,?_⟩;rw[hg,ht,hp,hs];exact⟨a1,a2,a3,a4,a5,fun b n7=>(hb b n7).trans (a6 b n7),a7,a8,Nat.le_trans a9 n2,hle _ _ _ ale hgm,a10,a11,a12⟩
theorem Cl1.P5 {j:Nat} (hle:∀a b c,Y.le j a b->Y.le j b c->Y.le j a c) (hgm:Y.le j Γ.gm Γ'.gm) {c:CB} {f:Y.L ⊕ Nat} (h:Cl1 Y fb q w0 Γ X R w j c f) (hb:∀b,Γ.pv j b->w'.heap[b]? =w.heap[b]?) (n2:w.heap.size <=w'.heap.size) (hs:Y.nil j=false->X'.G1 (Γ.gi j)=X.G1 (Γ.gi j)) (heb:Y.nil j=false->w'.heap[Γ.eb j]? =w.heap[Γ.eb j]?) (hge:Γ'.eb j=Γ.eb j) (hg:Γ'.gi j=Γ.gi j) (ht:Γ'.top j=Γ.top j) (hp:Γ'.pv j=Γ.pv j) (he:R'.ends[j]? =R.ends[j]?):Cl1 Y fb q w0 Γ' X' R' w' j c f:=by
 rcases h with⟨h1,h2,h3,h4⟩|⟨h1,h2⟩
 ·exact .inl ⟨h1,h2,h3,by rw[he];exact h4⟩
 ·refine .inr ⟨h1,?_⟩;cases f with
  |inl l=>exact Wt.P5 hle hgm h2 hb n2 (hs h1) (heb h1) hge hg ht hp
  |inr x=>exact⟨h2.1,by rw[he];exact h2.2.1,by rw[hg,hs h1];exact h2.2.2⟩
theorem Fix.P5 (hY:LeOk Y) (h:Fix Y fb q w0 Γ X R w Mn hold ft) (hM:H4 w' w0.heap.size R') (q9:R'.rb=R.rb) (hyb:R'.yb=R.yb) (hm:R'.m=R.m) (hfp:∀b,R'.fp b->R.fp b\/w.heap.size <=b) (hlen:R'.cl.length=R.cl.length)
  (n6:∀j c',R'.cl[j]? =some c'->∃c,R.cl[j]? =some c/\c'.cb=c.cb/\c'.rc=c.rc/\(some j≠hold->c'=c/\R'.ends[j]? =R.ends[j]?)) (n2:w.heap.size <=w'.heap.size) (S7:∀b,b<w.heap.size->¬R.fp b->Kept Y Γ R Mn b->w'.heap[b]? =w.heap[b]?\/∃i en,hold=some i/\i<R.cl.length/\Y.nil i=false/\b=Γ.eb i/\O1 w' b #[.bool en] 4 (0,0)) (hos:hold=none->w'.os=w.os/\w'.output=w.output) :
  Fix Y fb q w0 Γ X R' w' Mn hold ft:=by
 have lt:∀j c',R'.cl[j]? =some c'->j<R.cl.length:=fun j c' hc=>by rw[<- hlen];exact(List.getElem?_eq_some_iff.1 hc).1
 have hpv:∀j b,Γ.pv j b->w'.heap[b]? =w.heap[b]?:=fun j b hb=>by
  have hp:=h.pv j b hb;rcases S7 b hp.1 hp.2.1 (.inr (.inr ⟨j,hb⟩))with z|⟨i,en,_,z1,z2,z3,_⟩
  ·exact z
  ·exact absurd z3 (hp.2.2.2.1 i z1 z2).2
 have heb:∀j,j<R.cl.length->Y.nil j=false->w'.heap[Γ.eb j]? =w.heap[Γ.eb j]?\/(hold=some j/\∃en,O1 w' (Γ.eb j) #[.bool en] 4 (0,0)):=fun j hj hn=>by
  obtain⟨en,he⟩:=(h.ck j _ (List.getElem?_eq_getElem hj) hn).he;rcases S7 _ he.lt (h.side j hj hn).2.2.2 (.inr (.inl ⟨j,hj,hn,.inr rfl⟩))with z|⟨i,en,z0,z1,z2,z3,z4⟩
  ·exact .inl z
  ·obtain rfl:=h.qr0 j i hj z1 hn z2 z3;exact .inr ⟨z0,en,z4⟩
 have co1:∀j,j<R.cl.length->Y.nil j=false->some j≠hold->w'.heap[Γ.eb j]? =w.heap[Γ.eb j]?:=fun j hj hn hh=>by
  rcases heb j hj hn with z|⟨z,_⟩
  ·exact z
  ·exact absurd z.symm hh
 refine⟨hM,hm.trans h.m,fun j c' hc hj=>?_,fun j c' hc hn=>?_,fun b hb=>?_,fun j hj hn=>?_,fun j b hb=>?_,fun b hb=>?_,h.fz0,fun z=>(hos z).1.trans (h.os z),fun z=>(hos z).2.trans (h.output z),Nat.le_trans h.size n2,by rw[q9];exact h.L2,by rw[q9,hyb];exact h.is0,by rw[hyb];exact h.chy,fun g s hg hs=>?_,by rw[hlen];exact h.xk0,by rw[hlen];exact h.qr0,fun j k c d hc hd hn hk e=>?_,fun j c' hc hn=>?_,h.dn,h.pend,by rw[hlen];exact h.cap,h.under.mono n2,fun b hb=>h.D4 b (Nat.le_trans n2 hb),h.lh0,h.base⟩
 ·obtain⟨c,hc0,_,_,h4⟩:=n6 j c' hc;obtain⟨rfl,h5⟩:=h4 hj;obtain⟨f,hf,h6⟩:=h.cl j c' hc0 hj;exact⟨f,hf,h6.P5 (hY.trans _) (hY.refl _ Γ.gm) (fun b hb=>hpv j b hb) n2 (fun _=>rfl) (fun hn=>co1 j (lt j c' hc) hn hj) rfl rfl rfl rfl h5⟩
 ·obtain⟨c,hc0,hcb,hrc,_⟩:=n6 j c' hc;have hk:=h.ck j c hc0 hn;have hs:=h.side j (lt j c' hc) hn;refine⟨by rw[q9,hcb];exact hk.top,?_,?_,hk.bo0,by rw[hcb,hrc];exact hk.stay,by rw[hrc];exact hk.ch⟩
  ·rw[hcb];rcases S7 _ hk.ha.lt hs.2.2.1 (.inr (.inl ⟨j,lt j c' hc,hn,.inl rfl⟩))with z|⟨i,en,_,z1,z2,z3,_⟩
   ·exact z.trans hk.ha
   ·obtain⟨en',he'⟩:=(h.ck i _ (List.getElem?_eq_getElem z1) z2).he;exact absurd z3 (O1.ne hk.ha he' (by decide))
  ·rcases heb j (lt j c' hc) hn with z|⟨_,z⟩
   ·obtain⟨en',he'⟩:=hk.he;exact⟨en',z.trans he'⟩
   ·exact z
 ·rcases hfp b hb with z|z
  ·exact h.fpB b z
  ·exact Nat.le_trans h.size z
 ·rw[hlen]at hj;have hs:=h.side j hj hn;obtain⟨c,hc⟩:∃c,R.cl[j]? =some c:=⟨_,List.getElem?_eq_getElem hj⟩
  have hk:=h.ck j c hc hn;exact⟨hs.1,hs.2.1,fun z=>by rcases hfp _ z with y|y;exact hs.2.2.1 y;have:=hk.ha.lt;omega,fun z=>by rcases hfp _ z with y|y;exact hs.2.2.2 y;have:=hk.he.choose_spec.lt;omega⟩
 ·have hp:=h.pv j b hb;exact⟨Nat.lt_of_lt_of_le hp.1 n2,fun z=>by rcases hfp _ z with y|y;exact hp.2.1 y;have:=hp.1;omega,hp.2.2.1,by rw[hlen];exact hp.2.2.2.1,hp.2.2.2.2⟩
 ·have hm':=h.mn b hb;have T2:b<w.heap.size:=by
   rcases Nat.lt_or_ge b w.heap.size with z|z
   ·exact z
   ·exact absurd (hm'.1.symm.trans (Array.getElem?_eq_none z)) hb
  refine⟨?_,fun z=>by rcases hfp b z with y|y;exact hm'.2.1 y;omega,by rw[hlen];exact hm'.2.2⟩;rcases S7 b T2 hm'.2.1 (.inl hb)with z|⟨i,en,_,z1,z2,z3,_⟩
  ·exact z.trans hm'.1
  ·exact absurd z3 (hm'.2.2 i z1 z2).2
 ·obtain⟨j,c,h1,h2,h3,h4,h5⟩:=h.R3 g s hg hs;have hj:j<R'.cl.length:=by rw[hlen];exact(List.getElem?_eq_some_iff.1 h1).1
  obtain⟨c',w6⟩:∃c',R'.cl[j]? =some c':=⟨_,List.getElem?_eq_getElem hj⟩
  obtain⟨c2,e1,_,e3,_⟩:=n6 j c' w6;rw[h1]at e1;obtain rfl:=Option.some.inj e1;exact⟨j,c',w6,h2,h3,by rw[e3];exact h4,h5⟩
 ·obtain⟨c2,e1,_,e3,_⟩:=n6 j c hc;obtain⟨d2,f1,_,f3,_⟩:=n6 k d hd;exact h.Bt0 j k c2 d2 e1 f1 hn hk (by rw[<- e3,<- f3];exact e)
 ·obtain⟨c2,e1,_,e3,_⟩:=n6 j c' hc;rw[e3,hyb];exact h.ry j c2 e1 hn
end
end Go.Vy.Sc
end
section
namespace Go.Vy.Sc
open Go Go.Conc Go.Yc Go.RowKit Go.Proofs Go.Proofs.YtnifpkopeheodaaGreat Try
open Go.Vc Go.Wg
section
attribute [local irreducible] KK
structure li0 (Y:Sys):Prop extends LeOk Y where
 loc:∀s m (w w':World) F,Y.Inv s m w F->(∀b,F b->w'.heap[b]? =w.heap[b]?)->Y.Inv s m w' F
 vis:∀s m (w:World) F,Y.Inv s m w F->∀b,F b->b<w.heap.size/\w.heap[b]? ≠some nothing
section
variable {Y:Sys}{fb:Nat->FuncId}{q:PR Y}{Γ:R9}{X:Gh}{R:Rn}{w:World}{Mn:Nat->Option Obj}{w0:World}{ft:Nat->Option (Y.L ⊕ Nat)}{i:Nat}
theorem dp0 {h j:Nat} {sh:Option B5} {g:Nat} (h1:g≠h) (h2:g≠j):(X.pass h j sh).G1 g=X.G1 g:=by
 show Go.ConcN.upd (Go.ConcN.upd X.G1 j none) h sh g=_;rw[Go.ConcN.upd_ne _ _ h1,Go.ConcN.upd_ne _ _ h2]
theorem H8 {h j:Nat} {sh:Option B5}:(X.pass h j sh).G1 h=sh:=Go.ConcN.upd_same _ _ _
theorem it0 {h j:Nat} {sh:Option B5} (hj:j≠h):(X.pass h j sh).G1 j=none:=by
 show Go.ConcN.upd (Go.ConcN.upd X.G1 j none) h sh j=_;rw[Go.ConcN.upd_ne _ _ hj,Go.ConcN.upd_same]
def R9.put (Γ:R9) (i:Nat) (N:Nat->Prop):R9:={Γ with pv:=fun j b=>if j=i then N b else Γ.pv j b}
def R9.jj0 (Γ:R9) (i:Nat) (N:Nat->Prop) (m:Gm):R9:={Γ.put i N with gm:=m}
theorem ga0 {N:Nat->Prop} {m:Gm} {j:Nat} (h:j≠i):(Γ.jj0 i N m).pv j=Γ.pv j:=by funext b;simp[R9.jj0,R9.put,h]
theorem tj0 {N:Nat->Prop} {j:Nat} (h:j≠i):(Γ.put i N).pv j=Γ.pv j:=by funext b;simp[R9.put,h]
theorem Fix.back (hY:LeOk Y) {m:Gm} (hm:∀j,j≠i->Y.le j Γ.gm m) (h:Fix Y fb q w0 Γ X R w Mn (some i) ft) (hn:Y.nil i=false) {c:CB} (hc:R.cl[i]? =some c) {N:Nat->Prop} (hN:∀b,N b->b<w.heap.size/\¬R.fp b/\¬Kept Y Γ R Mn b) {sh:Option B5} (hsh:∀s,sh=some s->s.ch=c.rc) {f:Y.L ⊕ Nat}
  (hf:Cl1 Y fb q w0 (Γ.jj0 i N m) (X.pass (Γ.gi i) 0 sh) R w i c f) (hos:w.os=w0.os/\w.output=w0.output):Fix Y fb q w0 (Γ.jj0 i N m) (X.pass (Γ.gi i) 0 sh) R w Mn none (fun j=>if j=i then some f else ft j):=by
 have hi:=(List.getElem?_eq_some_iff.1 hc).1;have hg:=(h.ck i c hc hn).bo0;have G8:Γ.gi i≠0:=by omega
 refine⟨h.mem,h.m,fun j c' w6 _=>?_,fun j c' w6 hn'=>?_,h.fpB,h.side,fun j b hb=>?_,h.mn,h.fz0,fun _=>hos.1,fun _=>hos.2,h.size,h.L2,h.is0,h.chy,fun g s z6 hs=>?_,h.xk0,h.qr0,h.Bt0,h.ry,h.dn,h.pend,h.cap,⟨h.under.stay,h.under.X3,h.under.I7,h.under.L2,h.under.low⟩,h.D4,fun _=>it0 G8.symm,⟨h.base.le,h.base.low,h.base.pl⟩⟩
 ·by_cases hj:j=i
  ·subst hj;rw[hc]at w6;obtain rfl:=Option.some.inj w6;exact⟨f,by simp,hf⟩
  ·obtain⟨f',h1,h2⟩:=h.cl j c' w6 (by simpa using hj);have hjl:=(List.getElem?_eq_some_iff.1 w6).1;refine⟨f',by simp[hj,h1],h2.P5 (Γ':=Γ.jj0 i N m) (hY.trans _) (hm j hj) (fun _ _=>rfl) (Nat.le_refl _) (fun u7=>dp0 (fun e=>hj (h.xk0 j i hjl hi u7 hn e)) ?_) (fun _=>rfl) rfl rfl rfl (ga0 hj) rfl⟩;have:=(h.ck j c' w6 u7).bo0;omega
 ·have:=h.ck j c' w6 hn';exact⟨this.top,this.ha,this.he,this.bo0,this.stay,this.ch⟩
 ·by_cases hj:j=i
  ·subst hj;have n7:N b:=by simpa [R9.jj0,R9.put]using hb
   obtain⟨h1,h2,h3⟩:=hN b n7;refine⟨h1,h2,fun z=>h3 (.inl z),fun k hk hnk=>⟨fun e=>h3 (.inr (.inl ⟨k,hk,hnk,.inl e⟩)),fun e=>h3 (.inr (.inl ⟨k,hk,hnk,.inr e⟩))⟩,fun k hk hp=>?_⟩;rw[ga0 hk]at hp;exact h3 (.inr (.inr ⟨k,hp⟩))
  ·rw[ga0 hj]at hb;obtain⟨h1,h2,h3,h4,h5⟩:=h.pv j b hb;refine⟨h1,h2,h3,h4,fun k hk hp=>?_⟩;by_cases A8:k=i
   ·subst A8;have n7:N b:=by simpa [R9.jj0,R9.put]using hp
    exact(hN b n7).2.2 (.inr (.inr ⟨j,hb⟩))
   ·rw[ga0 A8]at hp;exact h5 k hk hp
 ·by_cases hgi:g=Γ.gi i
  ·subst hgi;rw[H8]at hs;exact⟨i,c,hc,hn,rfl,hsh s hs,by simp⟩
  ·rw[dp0 hgi z6]at hs;obtain⟨j,c',h1,h2,h3,h4,_⟩:=h.R3 g s z6 hs;exact⟨j,c',h1,h2,h3,h4,by simp⟩
theorem Fix.Xs0 (hY:LeOk Y) (h:Fix Y fb q w0 Γ X R w Mn none ft) (hn:Y.nil i=false) {c:CB} (hc:R.cl[i]? =some c) {s0:B5}:Fix Y fb q w0 (Γ.put i fun _=>False) (X.pass 0 (Γ.gi i) (some s0)) R w Mn (some i) ft:=by
 have hi:=(List.getElem?_eq_some_iff.1 hc).1;have hg:=(h.ck i c hc hn).bo0;have G8:Γ.gi i≠0:=by omega
 refine⟨h.mem,h.m,fun j c' w6 hj'=>?_,fun j c' w6 hn'=>?_,h.fpB,h.side,fun j b hb=>?_,h.mn,h.fz0,fun z=>by simp at z,fun z=>by simp at z,h.size,h.L2,h.is0,h.chy,fun g s z6 hs=>?_,h.xk0,h.qr0,h.Bt0,h.ry,h.dn,h.pend,h.cap,⟨h.under.stay,h.under.X3,h.under.I7,h.under.L2,h.under.low⟩,h.D4,(fun z=>by simp at z),⟨h.base.le,h.base.low,h.base.pl⟩⟩
 ·have hj:j≠i:=by simpa using hj'
  obtain⟨f',h1,h2⟩:=h.cl j c' w6 (by simp);have hjl:=(List.getElem?_eq_some_iff.1 w6).1;refine⟨f',h1,h2.P5 (Γ':=Γ.put i fun _=>False) (hY.trans _) (hY.refl _ Γ.gm) (fun _ _=>rfl) (Nat.le_refl _) (fun u7=>dp0 ?_ (fun e=>hj (h.xk0 j i hjl hi u7 hn e))) (fun _=>rfl) rfl rfl rfl (tj0 hj) rfl⟩;have:=(h.ck j c' w6 u7).bo0;omega
 ·have:=h.ck j c' w6 hn';exact⟨this.top,this.ha,this.he,this.bo0,this.stay,this.ch⟩
 ·by_cases hj:j=i
  ·subst hj;simp[R9.put]at hb
  ·rw[tj0 hj]at hb;obtain⟨h1,h2,h3,h4,h5⟩:=h.pv j b hb;refine⟨h1,h2,h3,h4,fun k hk hp=>?_⟩;by_cases A8:k=i
   ·subst A8;simp[R9.put]at hp
   ·rw[tj0 A8]at hp;exact h5 k hk hp
 ·by_cases hgi:g=Γ.gi i
  ·subst hgi;rw[it0 G8]at hs;cases hs
  ·rw[dp0 z6 hgi]at hs;obtain⟨j,c',h1,h2,h3,h4,_⟩:=h.R3 g s z6 hs;refine⟨j,c',h1,h2,h3,h4,?_⟩;intro e;obtain rfl:j=i:=by simpa using e
   exact hgi h3
structure Main (Y:Sys) (fb:Nat->FuncId) (q:PR Y) (w0:World) (Γ:R9) (X:Gh) (R:Rn) (w:World) (Mn:Nat->Option Obj) (ft:Nat->Option (Y.L ⊕ Nat)) (s:Y.S):Prop where
 fix:Fix Y fb q w0 Γ X R w Mn none ft
 inv:∃F,Y.Inv s Γ.gm w F/\∀b,F b->¬R.fp b/\¬Kept Y Γ R Mn b
def hh0 {L:Type} (e:List Int) (i:Nat):L ⊕ Nat->List Int
 | .inl _=>e
 | .inr x=>e.set i (x:Int)
def Rel (R0 R':Rn) (i:Nat) (W2:List (Nat×Nat×Nte)) (ends:List Int):Prop:=∃na nc c c',R0.cl[i]? =some c/\c'.W1=c.W1/\R'={R0 with na:=na,nc:=nc,W2:=W2,cl:=R0.cl.set i c',ends:=ends}
structure n8 (Y:Sys) (fb:Nat->FuncId) (q:PR Y) (w0:World) (Γ:R9) (X:Gh) (Mn:Nat->Option Obj) (ft:Nat->Option (Y.L ⊕ Nat)) (i t at_ cb:Nat) (n0:List (Nat×Nat×Nte)) (R0 R:Rn) (H:Hid) (v:World):Prop where
 fix:Fix Y fb q w0 Γ X R (over H v) Mn (some i) ft
 X3:G6 H v
 no:∀b o,H b=some o->v.heap[b]? =some nothing
 all:∀b,(R.fp b\/Kept Y Γ R Mn b)->H b≠none
 tq:gh v 0=t
 gmq:gm v=Γ.gm
 atq:R.evs.length=at_
 cl:∃c,R.cl[i]? =some c/\c.cb=cb/\((gh v 2=0/\c.st=false/\R.W2=n0++tell i at_ ((Y.u4 q t).W2.take (gh v 1))/\c.W1=Y.W1 q i t)\/(gh v 2=1/\c.st=true/\R.W2=n0))
 rel:∃na nc W2,R={R0 with na:=na,nc:=nc,W2:=W2}
 nil:Y.nil i=false
 he:O1 (over H v) (Γ.eb i) #[.bool false] 4 (0,0)
theorem n8.il {Y:Sys} {fb:Nat->FuncId} {q:PR Y} {w0:World} {Γ:R9} {X:Gh} {Mn:Nat->Option Obj} {ft:Nat->Option (Y.L ⊕ Nat)} {i t at_ cb:Nat} {n0:List (Nat×Nat×Nte)} {R0 R:Rn} {H:Hid} {v:World} (h:n8 Y fb q w0 Γ X Mn ft i t at_ cb n0 R0 R H v):i<R.cl.length:=by
 obtain⟨c,hc,_⟩:=h.cl;exact(List.getElem?_eq_some_iff.1 hc).1
theorem Af0 {H:Hid} {v:World} {b:Nat} {o:Obj} (X3:G6 H v) (h:H b=some o):(over H v).heap[b]? =some o:=D8 h (X3.gone b o h).lt
theorem vh0 {v v':World} (he:V8 v v') {b:Nat} (h:v.heap[b]? =some nothing):v'.heap[b]? =some nothing:=by
 obtain⟨y,hy,hk⟩:=he.obj _ _ h;obtain⟨c,rfl,h1,_⟩:=w7 hk;have:c=#[]:=by simpa using h1
 subst this;exact hy
theorem n8.evo {Y:Sys} (hY:LeOk Y) {fb:Nat->FuncId} {q:PR Y} {w0:World} {Γ:R9} {X:Gh} {Mn:Nat->Option Obj} {ft:Nat->Option (Y.L ⊕ Nat)} {i t at_ cb:Nat} {n0:List (Nat×Nat×Nte)} {R0 R:Rn} {H:Hid} {v v':World} (h:n8 Y fb q w0 Γ X Mn ft i t at_ cb n0 R0 R H v) (he:V8 v v') (ht:v'.tape=v.tape):n8 Y fb q w0 Γ X Mn ft i t at_ cb n0 R0 R H v':=by
 have Xt0:=h.X3.evo he;have hk:∀b,(R.fp b\/Kept Y Γ R Mn b)->(over H v').heap[b]? =(over H v).heap[b]?:=fun b hb=>by
  cases hh:H b with
  |none=>exact absurd hh (h.all b hb)
  |some o=>rw[Af0 Xt0 hh,Af0 h.X3 hh]
 refine⟨h.fix.P5 hY (h.fix.mem.congr fun b hb=>hk b (.inl hb)) rfl rfl rfl (fun b hb=>.inl hb) rfl (fun j c hc=>⟨c,hc,rfl,rfl,fun _=>⟨rfl,rfl⟩⟩) (by rw[q4,q4];exact he.size) (fun b _ _ hb=>.inl (hk b (.inr hb))) (fun z=>by cases z),Xt0,fun b o hb=>vh0 he (h.no b o hb),h.all,by rw[l4 ht];exact h.tq,by rw[fu0 ht];exact h.gmq,h.atq,?_,h.rel,h.nil,(hk _ (.inr (.inr (.inl ⟨i,h.il,h.nil,.inr rfl⟩)))).trans h.he⟩;rw[l4 ht,l4 ht];exact h.cl
end
end
section
attribute [local irreducible] KK
theorem Fix.j3 {Y:Sys} (hY:LeOk Y) {fb:Nat->FuncId} {q:PR Y} {Γ:R9} {X:Gh} {R:Rn} {w:World} {Mn:Nat->Option Obj} {w0:World} {ft:Nat->Option (Y.L ⊕ Nat)} {hold:Option Nat} (h:Fix Y fb q w0 Γ X R w Mn hold ft) (τ:Tape) (d:Nat):Fix Y fb q w0 Γ X R (Yc.j3 w τ d) Mn hold ft :=
 h.P5 hY (h.mem.congr fun _ _=>rfl) rfl rfl rfl (fun _b hb=>.inl hb) rfl (fun _j c hc=>⟨c,hc,rfl,rfl,fun _=>⟨rfl,rfl⟩⟩) (Nat.le_refl _) (fun _ _ _ _=>.inl rfl) (fun _=>⟨rfl,rfl⟩)
theorem qs0 {v:Value} (h:FnV Tryz.prog v):v.cells=#[v]/\v.oneCell'=true:=by
 rcases h with rfl|⟨f,caps,rfl,_⟩ <;> exact⟨rfl,rfl⟩
theorem K8.bw0.fnV {K:K8 Tryz.prog} {w:World} {m:Gm} {F:Nat->Prop} {rf:Value} {l:K.L} (h:K.bw0 w m F rf l):FnV Tryz.prog rf:=by
 rcases h with⟨h,_⟩|⟨f,caps,h,_⟩
 ·exact .inl h
 ·exact .inr ⟨f,caps,h⟩
theorem vi0 {fr:Frame} {w w':World} {v:Value} {fn:Func} (hf:Tryz.prog.funcs[fr.fn]? =some fn) (hr:fn.results=#[]\/∃t,fn.results=#[.tmp t]) (hv:fn.results=#[]->v= .tuple #[]) (h:Leaves Tryz.prog fr w (.returned v)) (hnv:k6 w):Leaves Tryz.prog fr w' (.returned v):=by
 obtain⟨h1,h2,h3,fn',h4,h5⟩:=h;rw[hf]at h4;obtain rfl:=Option.some.inj h4;refine⟨h1,h2,h3,fn,hf,?_⟩;rcases hr with hr|⟨t,hr⟩
 ·rw[hv hr];exact O6 (fun w=>results_none hr _ _ w) (fun w=>events_results_none hr _ _)
 ·obtain⟨x',es,h6,_⟩:=h5 w.tape w.drawn _ w hnv.T9;have h7:=results_tmp hr fr.tmps Tryz.prog w;rw[Sem.runT_eq]at h6;have h8:=(Prod.mk.inj h6).1;rw[h7]at h8;injection h8 with h9 h10
  rw[<- h9];exact O6 (fun w=>results_tmp hr _ _ w) (fun w=>events_results_tmp hr _ _)
section
variable {Y:Sys}{fb:Nat->FuncId}{q:PR Y}{Γ:R9}{X:Gh}{R R0:Rn}{w:World}{Mn:Nat->Option Obj}{w0:World}{ft:Nat->Option (Y.L ⊕ Nat)}{i t at_ cb:Nat}{n0:List (Nat×Nat×Nte)}
theorem Fix.Kr0 (h:Fix Y fb q w0 Γ X R w Mn (some i) ft) {b:Nat} (hb:R.fp b\/Kept Y Γ R Mn b):b<w.heap.size:=by
 rcases hb with hb|hb|⟨k,hk,hn,hb⟩|⟨j,hb⟩
 ·exact h.mem.lt hb
 ·rcases Nat.lt_or_ge b w.heap.size with z|z
  ·exact z
  ·exact absurd ((h.mn b hb).1.symm.trans (Array.getElem?_eq_none z)) hb
 ·have:=h.ck k _ (List.getElem?_eq_getElem hk) hn;rcases hb with rfl|rfl
  ·exact this.ha.lt
  ·exact this.he.choose_spec.lt
 ·exact(h.pv j b hb).1
theorem n8.enter (hY:LeOk Y) (V:Nat->Prop) [DecidablePred V] {τ:Tape} {d:Nat} (fix:Fix Y fb q w0 Γ X R w Mn (some i) ft) (hV:∀b,(R.fp b\/Kept Y Γ R Mn b)->¬V b) (nv:k6 w) (h1:gh (Yc.j3 (H3 V w) τ d) 0=t) (hgm:gm (Yc.j3 (H3 V w) τ d)=Γ.gm) (h2:R.evs.length=at_)
  (h3:∃c,R.cl[i]? =some c/\c.cb=cb/\((gh (Yc.j3 (H3 V w) τ d) 2=0/\c.st=false/\R.W2=n0++tell i at_ ((Y.u4 q t).W2.take (gh (Yc.j3 (H3 V w) τ d) 1))/\c.W1=Y.W1 q i t)\/(gh (Yc.j3 (H3 V w) τ d) 2=1/\c.st=true/\R.W2=n0)))
  (h4:∃na nc W2,R={R0 with na:=na,nc:=nc,W2:=W2}) (hn:Y.nil i=false) (he:O1 w (Γ.eb i) #[.bool false] 4 (0,0)):n8 Y fb q w0 Γ X Mn ft i t at_ cb n0 R0 R (Q7 V w) (Yc.j3 (H3 V w) τ d):=by
 refine⟨?_,(kx0 nv).j3 τ d,fun b o hb=>?_,fun b hb=>?_,h1,hgm,h2,h3,h4,hn,?_⟩
 ·rw[P7,fs0];exact fix.j3 hY τ d
 ·by_cases hv:V b
  ·simp[Q7,hv]at hb
  ·simp only[Q7,hv,if_false]at hb;exact en0 hv (Array.getElem?_eq_some_iff.1 hb).1
 ·have hv:=hV b hb;have T2:=fix.Kr0 hb;simp only[Q7,hv,if_false];rw[Array.getElem?_eq_getElem T2];simp
 ·rw[P7,fs0];exact he
def After (Y:Sys) (fb:Nat->FuncId) (q:PR Y) (w0:World) (Mn:Nat->Option Obj) (ft:Nat->Option (Y.L ⊕ Nat)) (i t:Nat) (n0:List (Nat×Nat×Nte)) (R0:Rn) (st:Bool) (Γ':R9) (X':Gh) (R':Rn) (w':World):Prop :=
 (st=false/\Main Y fb q w0 Γ' X' R' w' Mn (fun j=>if j=i then some (Y.u4 q t).k8 else ft j) (Y.u4 q t).s/\Rel R0 R' i (n0++tell i R0.evs.length (Y.u4 q t).W2) (hh0 R0.ends i (Y.u4 q t).k8)) \/
 (st=true/\Main Y fb q w0 Γ' X' R' w' Mn (fun j=>if j=i then some (.inr 0) else ft j) (Y.sAt q t)/\Rel R0 R' i n0 (R0.ends.set i 0))
theorem n8.Qv0 {H:Hid} {v:World} (h:n8 Y fb q w0 Γ X Mn ft i t at_ cb n0 R0 R H v) {b:Nat} (hb:v.heap[b]? ≠some nothing):H b=none/\¬R.fp b/\¬Kept Y Γ R Mn b:=by
 have hn:H b=none:=by
  cases hh:H b with
  |none=>rfl
  |some o=>exact absurd (h.no b o hh) hb
 exact⟨hn,fun z=>h.all b (.inl z) hn,fun z=>h.all b (.inr z) hn⟩
theorem n8.I7 {H:Hid} {v:World} (h:n8 Y fb q w0 Γ X Mn ft i t at_ cb n0 R0 R H v) (hn:Y.nil i=false) {c:CB} (hc:R.cl[i]? =some c):∀g s2,g≠0->X.G1 g=some s2->s2.ch≠c.rc:=by
 intro g s2 hg hs e;obtain⟨j,d,h1,h2,h3,h4,h5⟩:=h.fix.R3 g s2 hg hs;have:=h.fix.Bt0 j i d c h1 hc h2 hn (h4.symm.trans e);subst this;exact h5 rfl
theorem n8.home (hY:li0 Y) {H:Hid} {v w':World} (h:n8 Y fb q w0 Γ X Mn ft i t at_ cb n0 R0 R H v) (hn:Y.nil i=false) {c c':CB} {ends:List Int} {S:Nat->Prop} {B:Nat} (hc:R.cl[i]? =some c) (Xu0:c'.cb=c.cb) (cp1:c'.rc=c.rc) (_hc'p:c'.W1=c.W1) (hg:Rg S B (over H v) w' w0.heap.size {R with cl:=R.cl.set i c',ends:=ends}) (hB:B=(over H v).heap.size) (hS:∀k,S k->R.fp k\/(k=Γ.eb i)) (cq1:∃en,O1 w' (Γ.eb i) #[.bool en] 4 (0,0)) (Gd0:∀j,j≠i->ends[j]? =R.ends[j]?)
  (F:Nat->Prop) {s:Y.S} {m:Gm} (hm:∀j,j≠i->Y.le j (gm v) m) (hinv:Y.Inv s m v F) (hos:v.os=w0.os/\v.output=w0.output) {sh:Option B5} (hsh:∀s,sh=some s->s.ch=c'.rc) {f:Y.L ⊕ Nat} {N:Nat->Prop} (hN:∀b,N b->v.heap[b]? ≠some nothing/\b<v.heap.size/\¬F b) (hf:(∀b,v.heap[b]? ≠some nothing->b<v.heap.size->w'.heap[b]? =v.heap[b]?)->Cl1 Y fb q w0 (Γ.jj0 i N m) (X.pass (Γ.gi i) 0 sh) {R with cl:=R.cl.set i c',ends:=ends} w' i c' f) :
  Main Y fb q w0 (Γ.jj0 i N m) (X.pass (Γ.gi i) 0 sh) {R with cl:=R.cl.set i c',ends:=ends} w' Mn (fun j=>if j=i then some f else ft j) s/\(∃na nc,{R with cl:=R.cl.set i c',ends:=ends}={R0 with na:=na,nc:=nc,W2:=R.W2,cl:=R0.cl.set i c',ends:=ends}):=by
 subst hB;have J7:=(List.getElem?_eq_some_iff.1 hc).1;have Nx0:∀b,b<(over H v).heap.size->¬R.fp b->b≠Γ.eb i->w'.heap[b]? =(over H v).heap[b]?:=fun b hb hf he=>hg.md.block b hb fun hs=>(hS b hs).elim hf he;have I8:∀b,v.heap[b]? ≠some nothing->b<v.heap.size->w'.heap[b]? =v.heap[b]?:=fun b hb T2=>by
  obtain⟨h1,h2,h3⟩:=h.Qv0 hb;rw[Nx0 b (by rw[q4];exact T2) h2 (fun e=>h3 (.inr (.inl ⟨i,J7,hn,.inr e⟩))),o5 v h1]
 have hfp:∀b,Rn.fp {R with cl:=R.cl.set i c',ends:=ends} b->R.fp b:=fun b hb=>Rn.zw0 (R:=R) hc Xu0 hb;have hK:∀b,Kept Y Γ {R with cl:=R.cl.set i c',ends:=ends} Mn b↔Kept Y Γ R Mn b:=fun b=>by simp[Kept]
 have Xv0:=h.fix.P5 hY.toLeOk (R':={R with cl:=R.cl.set i c',ends:=ends}) (w':=w') hg.m rfl rfl rfl (fun b hb=>.inl (hfp b hb)) (by simp) (fun j d hd=>by
  have J5:(R.cl.set i c')[j]? =some d:=hd;rw[List.getElem?_set]at J5;by_cases hj:i=j
  ·subst hj;rw[if_pos rfl,if_pos J7]at J5;obtain rfl:=Option.some.inj J5;exact⟨c,hc,Xu0,cp1,fun z=>absurd rfl z⟩
  ·rw[if_neg hj]at J5;exact⟨d,J5,rfl,rfl,fun _=>⟨rfl,Gd0 j (Ne.symm hj)⟩⟩) hg.md.size (fun b hb hf _=>by
   by_cases he:b=Γ.eb i
   ·subst he;obtain⟨en,he⟩:=cq1;exact .inr ⟨i,en,rfl,J7,hn,rfl,he⟩
   ·exact .inl (Nx0 b hb hf he)) (fun z=>by cases z)
 have w6:Rn.cl {R with cl:=R.cl.set i c',ends:=ends}=R.cl.set i c':=rfl;have hci:(Rn.cl {R with cl:=R.cl.set i c',ends:=ends})[i]? =some c':=by rw[w6];simp[J7]
 have Xw0:=Xv0.back hY.toLeOk (m:=m) (by rw[<- h.gmq];exact hm) hn hci (N:=N) (fun b hb=>by
  obtain⟨h1,h2,h3⟩:=hN b hb;obtain⟨h4,h5,h6⟩:=h.Qv0 h1;refine⟨Nat.lt_of_lt_of_le h2 (by have:=hg.md.size;rw[q4]at this;exact this),fun z=>h5 (hfp b z),fun z=>h6 ((hK b).1 z)⟩) hsh (hf I8) ⟨hg.md.os.trans hos.1,hg.md.output.trans hos.2⟩
 refine⟨⟨Xw0,F,hY.loc _ _ v w' F hinv fun b hb=>?_,fun b hb=>?_⟩,?_⟩
 ·have:=hY.vis _ _ v F hinv b hb;exact I8 b this.2 this.1
 ·have hv:=hY.vis _ _ v F hinv b hb;obtain⟨h4,h5,h6⟩:=h.Qv0 hv.2;refine⟨fun z=>h5 (hfp b z),fun z=>?_⟩;rcases z with z|z|⟨j,z⟩
  ·exact h6 (.inl z)
  ·exact h6 ((hK b).1 (.inr (.inl z)))
  ·by_cases hj:j=i
   ·subst hj;have:N b:=by simpa [R9.jj0,R9.put]using z
    exact(hN b this).2.2 hb
   ·rw[ga0 hj]at z;exact h6 (.inr (.inr ⟨j,z⟩))
 ·obtain⟨na,nc,W2,rfl⟩:=h.rel;exact⟨na,nc,rfl⟩
end
end
section
attribute [local irreducible] KK
section
variable {Y:Sys}{fb:Nat->FuncId}{q:PR Y}{Γ:R9}{X:Gh}{R R0:Rn}{Mn:Nat->Option Obj}{w0:World}{ft:Nat->Option (Y.L ⊕ Nat)}{i t at_ cb:Nat}{n0:List (Nat×Nat×Nte)}{H:Hid}{v:World}
theorem n8.bo0 (h:n8 Y fb q w0 Γ X Mn ft i t at_ cb n0 R0 R H v):0<Γ.gi i:=(h.fix.ck i _ (List.getElem?_eq_getElem h.il) h.nil).bo0.1
theorem n8.Xx0 (h:n8 Y fb q w0 Γ X Mn ft i t at_ cb n0 R0 R H v) {b:Nat} (hb:H b=none):¬R.fp b/\¬Kept Y Γ R Mn b:=⟨fun z=>h.all b (.inl z) hb,fun z=>h.all b (.inr z) hb⟩
theorem n8.again (hY:LeOk Y) (h:n8 Y fb q w0 Γ X Mn ft i t at_ cb n0 R0 R H v) {w':World} {R':Rn} {τ:Tape} {d:Nat} (hg:Rg R.fp (over H v).heap.size (over H v) w' w0.heap.size R') (V:Nat->Prop) [DecidablePred V] (hV:∀b,V b↔(H b=none/\¬R'.fp b)) (nv:k6 w') (hR:∃na nc W2,R'={R with na:=na,nc:=nc,W2:=W2})
  (h1:gh (Yc.j3 (H3 V w') τ d) 0=t) (hgm:gm (Yc.j3 (H3 V w') τ d)=gm v) (h3:∃c,R'.cl[i]? =some c/\c.cb=cb/\((gh (Yc.j3 (H3 V w') τ d) 2=0/\c.st=false/\R'.W2=n0++tell i at_ ((Y.u4 q t).W2.take (gh (Yc.j3 (H3 V w') τ d) 1))/\c.W1=Y.W1 q i t)\/(gh (Yc.j3 (H3 V w') τ d) 2=1/\c.st=true/\R'.W2=n0))) :
  n8 Y fb q w0 Γ X Mn ft i t at_ cb n0 R0 R' (Q7 V w') (Yc.j3 (H3 V w') τ d)/\Pm0 v (Yc.j3 (H3 V w') τ d):=by
 obtain⟨na,nc,W2,rfl⟩:=hR;have hkb:∀b,b<(over H v).heap.size->¬R.fp b->w'.heap[b]? =(over H v).heap[b]?:=fun b hb hf=>hg.md.block b hb hf;have ja0:=h.fix.P5 hY (R':={R with na:=na,nc:=nc,W2:=W2}) (w':=w') hg.m rfl rfl rfl hg.fp rfl (fun j c hc=>⟨c,hc,rfl,rfl,fun _=>⟨rfl,rfl⟩⟩) hg.md.size (fun b hb hf _=>.inl (hkb b hb hf)) (fun z=>by cases z);have heL:=h.he.lt;have heF:¬R.fp (Γ.eb i):=(h.fix.side i h.il h.nil).2.2.2;refine⟨n8.enter hY V ja0 (fun b hb hv=>?_) nv h1 (hgm.trans h.gmq) h.atq h3 ?_ h.nil ((hkb _ heL heF).trans h.he),⟨?_,?_,?_,fun b hb=>?_⟩⟩
 ·obtain⟨h4,h5⟩:=(hV b).1 hv;rcases hb with hb|hb
  ·exact h5 hb
  ·exact h.all b (.inr hb) h4
 ·obtain⟨a,c,n,e⟩:=h.rel;exact⟨na,nc,W2,by rw[e]⟩
 ·exact hg.md.os
 ·exact hg.md.output
 ·show v.heap.size <=(H3 V w').heap.size;rw[j8,<- q4 H v];exact hg.md.size
 ·show(H3 V w').heap[b]? =v.heap[b]?;have n7:b<(over H v).heap.size:=by rw[q4];exact hb
  cases hh:H b with
  |none=>
   have hf:=h.Xx0 hh;have hf':¬Rn.fp {R with na:=na,nc:=nc,W2:=W2} b:=fun z=>(hg.fp b z).elim hf.1 (Nat.not_le_of_lt n7);rw[u9 _ ((hV b).2 ⟨hh,hf'⟩),hkb b n7 hf.1,o5 v hh]
  |some o=>
   rw[en0 (fun z=>by rw[((hV b).1 z).1]at hh;cases hh) (Nat.lt_of_lt_of_le n7 hg.md.size),h.no b o hh]
theorem n8.number {Post:Value->World->Prop} {cs:List Frame} (h:n8 Y fb q w0 Γ X Mn ft i t at_ cb n0 R0 R H v) (k:∀fr,fr.fn=47->Leaves Tryz.prog fr v (.returned (.i (i:Nat)))->dx0 Tryz.prog Post X (Γ.gi i) H (G fr cs) v) :
  dx0 Tryz.prog Post X (Γ.gi i) H (G (Frame.enter Tryz.prog 47 #[.p cb] .normal) cs) v:=by
 intro hH;obtain⟨c,hc,hcb,_⟩:=h.cl;have hB:=h.fix.mem.blk i c hc;refine g9 _ _ fun nv=>?_;subst hcb;refine @Fe0 (V1 Tryz.prog (Γ.gi i==0)) R.rb i c (over H v) hB _ V3 cs fun e w' fr he hf hl=>?_;cases e with
 |returned x=>
  obtain⟨rfl,rfl⟩:=he;exact k fr hf (vi0 (by rw[hf];exact Tryz.func47) (.inr ⟨_,rfl⟩) (fun z=>by cases z) hl nv) hH
 |panicked ch=>exact he.elim
 |outgrown=>exact he.elim
theorem es0 {Post:Value->World->Prop} {z0:Value} {me0:Goroutine} {st:Bool} (hY:li0 Y) (hX0:X.G1 0=some ⟨R0.yb,z0,me0⟩) (_hnt:n0.length+(Y.u4 q t).W2.length <=1000000000)
  (E7:∀Γ' X' R' w',After Y fb q w0 Mn ft i t n0 R0 st Γ' X' R' w'->Fin Tryz.prog Post X' 0 (Go.Conc.served me0 (.i (i:Int))) w') {g:Goroutine} {v:World} (hp:l8 (Y.cfg fb q w0 i cb (Γ.top i)) g v) :
  ∀H R,n8 Y fb q w0 Γ X Mn ft i t at_ cb n0 R0 R H v->(∀c,R.cl[i]? =some c->c.st=st)->dx0 Tryz.prog Post X (Γ.gi i) H g v:=by
 induction hp with
 |own hr g' u' d' hf hk ih=>
  intro H R h S2;have G8:(Γ.gi i==0)=false:=by have:=h.bo0;simp;omega
  refine kw0 hr fun τ d=>⟨g' τ d,u' τ d,by rw[G8];exact hf τ d,fun he=>be0 (ih τ d H R (h.evo hY.toLeOk ⟨he.size,he.obj⟩ rfl) S2)⟩
 |ign h0 ih=>
  intro H R h S2;exact zz0.2 _ _ fun hv=>ih hv H R h S2
 | @number cs v k ih=>
  intro H R h S2;exact h.number fun fr hf hl=>ih fr hf hl H R h S2
 |W1 hfn=>cases hfn
 | @again cs v s rf df h2 hs k ih=>
  intro H R h S2 hH;obtain⟨c,hc,hcb,n6⟩:=h.cl;have hB:=h.fix.mem.blk i c hc;have jz0:c.st=true/\R.W2=n0:=by
   rcases n6 with n6|n6
   ·have:=n6.1;omega
   ·exact n6.2
  have G8:(Γ.gi i==0)=false:=by have:=h.bo0;simp;omega
  obtain⟨s0,rfl⟩:=hs;subst hcb;refine xi0 (Z:=Fin Tryz.prog Post X (Γ.gi i)) (by have:=@V3 Tryz.prog Post X (Γ.gi i);rw[G8]at this;exact this) hB jz0.1 fun w' fr ch hb hf hr hl=>?_;refine g9 _ _ fun nv=>?_;haveI:DecidablePred fun b=>H b=none/\¬R.fp b:=fun _=>Classical.propDecidable _;have hg:Rg R.fp (over H v).heap.size (over H v) w' w0.heap.size R:=h.fix.mem.rg.E0 hb;have htp:w'.tape=v.tape:=hb.tape;obtain⟨h5,h6⟩:=h.again hY.toLeOk (τ:=w'.tape) (d:=w'.drawn) hg (fun b=>H b=none/\¬R.fp b) (fun _=>Iff.rfl) nv ⟨R.na,R.nc,R.W2,rfl⟩ ((l4 htp 0).trans h.tq) (fu0 htp) ⟨c,hc,rfl,.inr ⟨(l4 htp 2).trans h2,jz0⟩⟩;exact ju0 (fun b=>H b=none/\¬R.fp b) (ih _ fr ch h6 htp hf hr hl _ R h5 S2)
 |note hfn=>cases hfn
 | @step cs v s rf df l m F ht hs hr hdf Rdo hdo go stop ihg ihs=>
  intro H R h S2 hH;obtain⟨c,hc,hcb,n6⟩:=h.cl;have htq:=h.tq;have hn:=h.nil;have h2:gh v 2=0:=ht.on;have vj0:c.st=false/\R.W2=n0++tell i at_ ((Y.u4 q t).W2.take (gh v 1))/\c.W1=Y.W1 q i t:=by
   rcases n6 with n6|n6
   ·exact n6.2
   ·have:=n6.1;omega
  have Ny0:(Y.u4 q t).k8= .inl l:=by rw[<- htq];exact ht.k8
  have cr1:gh v 1=(Y.u4 q t).W2.length:=by rw[<- htq];exact ht.W2
  have hinv:Y.Inv (Y.u4 q t).s m v F:=by rw[<- htq];exact ht.inv
  have hck:=h.fix.ck i c hc hn;have J7:=h.il;obtain⟨na,nc,W2,no0⟩:=h.rel;have hyb:R.yb=R0.yb:=by rw[no0]
  have hR0:R0.cl=R.cl:=by rw[no0]
  have Qw0:R0.evs=R.evs:=by rw[no0]
  subst hcb hs;refine step_fin (Bs:=w0.heap.size) h.fix.mem.rg hc vj0.1 (qs0 (K8.bw0.fnV hr)) (qs0 hdf) (by have:=h.bo0;omega) (by rw[hyb];exact hX0) h.fix.dn hck.stay ⟨hck.ch,h.I7 hn hc⟩ fun w' me hg hme=>?_;have hef:=(h.fix.side i J7 hn).2.2.2;have heb:O1 w' (Γ.eb i) #[.bool false] 4 (0,0):=(hg.md.block _ h.he.lt hef).trans h.he;obtain⟨h7,h8⟩:=h.home hY hn (c':={c with sp:=Y.stp i l,rf:=rf,df:=df,wt:=true}) (ends:=R.ends) hc rfl rfl rfl hg rfl (fun k hk=>.inl hk) ⟨_,heb⟩ (fun _ _=>rfl) F ht.le hinv ⟨ht.os,ht.output⟩ (sh:=some ⟨c.rc,.bool false,me⟩) (fun s e=>by cases e;rfl) (f:=.inl l)
   (N:=fun b=>b<v.heap.size/\v.heap[b]? ≠some nothing/\¬F b) (fun b hb=>⟨hb.2.1,hb.1,hb.2.2⟩) (fun I8=>.inr ⟨hn,rfl,vj0.1,rfl,heb,me,cs,v,m,F,Rdo,H8,hme,hr,hdf,fun b=>by simp[R9.jj0,R9.put],fun b hb=>by
    have n7:b<v.heap.size/\v.heap[b]? ≠some nothing/\¬F b:=by simpa [R9.jj0,R9.put]using hb
    exact I8 b n7.2.1 n7.1,ht.os,ht.output,by have:=hg.md.size;rw[q4]at this;exact this,hY.refl _ _,hdo,go,stop⟩)
  rw[<- Ny0]at h7;obtain⟨a,b,e⟩:=h8;refine E7 _ _ _ _ (.inl ⟨(S2 c hc).symm.trans vj0.1,h7,a,b,c,{c with sp:=Y.stp i l,rf:=rf,df:=df,wt:=true},by rw[hR0];exact hc,rfl,e.trans ?_⟩)
  ·rw[Ny0,show hh0 R0.ends i (Sum.inl l:Y.L ⊕ Nat)=R.ends from by rw[no0];rfl,vj0.2.1,cr1,List.take_length,Qw0,h.atq]
 | @done fr v e F hf hl hd=>
  intro H R h S2 hH;obtain⟨c,hc,hcb,n6⟩:=h.cl;have htq:=h.tq;have hn:=h.nil;have hck:=h.fix.ck i c hc hn;have J7:=h.il;obtain⟨na,nc,W2,no0⟩:=h.rel;have hyb:R.yb=R0.yb:=by rw[no0]
  have hR0:R0.cl=R.cl:=by rw[no0]
  have Qw0:R0.evs=R.evs:=by rw[no0]
  have hsd:=h.fix.side i J7 hn;have hlen:R.ends.length=R.m:=h.fix.mem.dy0;have him:i<R.ends.length:=by have:=h.fix.mem.lcl;omega
  have key:∀x:Nat,Xk0 c (x:Int) e->((st=false/\(Y.u4 q t).k8= .inr x/\gh v 1=(Y.u4 q t).W2.length/\∃m,(∀j,j≠i->Y.le j (gm v) m)/\Y.Inv (Y.u4 q t).s m v F)\/(st=true/\x=0/\∃m,(∀j,j≠i->Y.le j (gm v) m)/\Y.Inv (Y.sAt q t) m v F))->v.os=w0.os->v.output=w0.output->Fin Tryz.prog Post X (Γ.gi i) (G fr (Γ.top i)) (over H v):=by
   intro x hx hk hos et0;have hg:Rg (fun b=>R.fp b\/b=Γ.eb i) (over H v).heap.size (over H v) (over H v) w0.heap.size R:=⟨h.fix.mem,er0.refl _ _ _,fun k hk=>.inl (.inl hk),Nat.le_refl _⟩
   refine hck.top.leave (x:Int) hg rfl hc rfl hck.ha h.he (.inl (.inr rfl)) hx h.bo0 (by rw[hyb];exact hX0) h.fix.dn h.fix.L2 (fun w' z6 heb=>?_) (in0 hH hl);have Gd0:∀j,j≠i->(R.ends.set i (x:Int))[j]? =R.ends[j]?:=fun j hj=>by rw[List.getElem?_set_ne (Ne.symm hj)]
   have hmk:∀s m,(∀j,j≠i->Y.le j (gm v) m)->Y.Inv s m v F->_:=fun s m hm hs=>h.home hY hn (c':={c with wt:=false}) (ends:=R.ends.set i (x:Int)) hc rfl rfl rfl z6 rfl (fun k hk=>hk) heb Gd0 F hm hs ⟨hos,et0⟩ (sh:=none) (fun s e=>by cases e) (f:=.inr x) (N:=fun _=>False) (fun b hb=>hb.elim) (fun I8=>.inr ⟨hn,rfl,by simp[him],H8⟩);rcases hk with⟨h1,h2,h3,m,hm,h4⟩|⟨h1,h2,m,hm,h3⟩
   ·have jz0:c.st=false:=(S2 c hc).trans h1;have vj0:R.W2=n0++tell i at_ ((Y.u4 q t).W2.take (gh v 1)):=by
     rcases n6 with n6|n6
     ·exact n6.2.2.1
     ·rw[jz0]at n6;exact absurd n6.2.1 (by decide)
    obtain⟨h7,a,b,e'⟩:=hmk _ m hm h4;rw[<- h2]at h7;refine E7 _ _ _ _ (.inl ⟨h1,h7,a,b,c,{c with wt:=false},by rw[hR0];exact hc,rfl,e'.trans ?_⟩)
    ·rw[h2,show hh0 R0.ends i (Sum.inr x:Y.L ⊕ Nat)=R.ends.set i (x:Int)from by rw[no0];rfl,vj0,h3,List.take_length,Qw0,h.atq]
   ·have jz0:c.st=true:=(S2 c hc).trans h1;have vj0:R.W2=n0:=by
     rcases n6 with n6|n6
     ·rw[jz0]at n6;exact absurd n6.2.1 (by decide)
     ·exact n6.2.2
    obtain⟨h7,a,b,e'⟩:=hmk _ m hm h3;subst h2;refine E7 _ _ _ _ (.inr ⟨h1,h7,a,b,c,{c with wt:=false},by rw[hR0];exact hc,rfl,e'.trans ?_⟩)
    ·rw[show R0.ends.set i 0=R.ends.set i ((0:Nat):Int)from by rw[no0];rfl,vj0]
  have Qx0:gh v 2=0->c.st=false:=fun z=>by rcases n6 with n6|n6;exact n6.2.1;have:=n6.1;omega
  have xl0:gh v 2=1->c.st=true:=fun z=>by rcases n6 with n6|n6;have:=n6.1;omega;exact n6.2.1
  have O3:∀(x:Nat) m,(Y.cfg fb q w0 i cb (Γ.top i)).Told v m F (.inr x)->(st=false/\(Y.u4 q t).k8= .inr x/\gh v 1=(Y.u4 q t).W2.length/\∃m,(∀j,j≠i->Y.le j (gm v) m)/\Y.Inv (Y.u4 q t).s m v F):=fun x m ht=>
   ⟨(S2 c hc).symm.trans (Qx0 ht.on),by rw[<- htq];exact ht.k8,by rw[<- htq];exact ht.W2,m,ht.le,by rw[<- htq];exact ht.inv⟩
  cases e with
  |outgrown=>exact hd.elim
  |returned x=>
   rcases hd with⟨m,ht⟩|⟨h2,h3,h4,h5⟩
   ·exact key 1 (.inr ⟨Qx0 ht.on,rfl⟩) (.inl (O3 1 m ht)) ht.os ht.output
   ·exact key 0 (.inl ⟨xl0 h2,rfl⟩) (.inr ⟨(S2 c hc).symm.trans (xl0 h2),rfl,by rw[<- htq];exact h3⟩) h4 h5
  |panicked ch=>
   obtain⟨J6,⟨m,ht⟩|⟨h2,h3,h4,h5⟩⟩:=hd
   ·exact key 2 ⟨J6,.inr ⟨Qx0 ht.on,rfl⟩⟩ (.inl (O3 2 m ht)) ht.os ht.output
   ·exact key 0 ⟨J6,.inl ⟨xl0 h2,rfl⟩⟩ (.inr ⟨(S2 c hc).symm.trans (xl0 h2),rfl,by rw[<- htq];exact h3⟩) h4 h5
end
end
section
attribute [local irreducible] KK
def upN {α:Type} (f:Nat->α) (i:Nat) (x:α):Nat->α:=fun j=>if j=i then x else f j
theorem A5 {α:Type} {f:Nat->α} {i:Nat} {x:α} {j:Nat} (h:j≠i):upN f i x j=f j:=by simp[upN,h]
theorem W4 {α:Type} {f:Nat->α} {i:Nat} {x:α}:upN f i x i=x:=by simp[upN]
def R9.add (Γ:R9) (i g a e:Nat) (top:List Frame):R9:=⟨Γ.gm,upN Γ.gi i g,upN Γ.ab i a,upN Γ.eb i e,upN Γ.top i top,upN Γ.pv i fun _=>False⟩
def vk0 (X:Gh) (cb rc:Nat) (s:B5):Gh :=
 {((Gh.hire {X.lower cb with pend:=1,cap:=X.cap+1,dn:=0} s).lower rc)with I7:=fun c=>X.I7 c\/c=rc,stay:=Go.ConcN.upd X.stay X.n [(⟨cb,2,none⟩,.chan (some rc))]}
section
variable {Y:Sys}{fb:Nat->FuncId}{q:PR Y}{Γ:R9}{X:Gh}{R:Rn}{w w1:World}{Mn:Nat->Option Obj}{w0:World}{ft:Nat->Option (Y.L ⊕ Nat)}{i:Nat}
theorem bp0 {α:Type} {l:List α} {x y:α} {j:Nat} (h:(l ++ [x])[j]? =some y):l[j]? =some y\/(j=l.length/\x=y):=by
 rcases Nat.lt_trichotomy j l.length with z|z|z
 ·rw[List.getElem?_append_left z]at h;exact .inl h
 ·subst z;simp at h;exact .inr ⟨rfl,h⟩
 ·rw[List.getElem?_eq_none (by simp;omega)]at h;cases h
theorem Fix.Qy0 (hY:LeOk Y) (h:Fix Y fb q w0 Γ X R w Mn none ft) (hn:Y.nil i=true) (hi:R.cl.length=i) {cb rc:Nat} {a:Option Addr} {n:Nat} (him:i<R.m) (hcb:w.heap.size <=cb) (hg:Rg R.fp w.heap.size w w1 w0.heap.size {R with ca:=a,cc:=n,cl:=R.cl ++ [Z3 cb rc],ends:=R.ends.set i 1}) (hft:ft i=none) :
  Fix Y fb q w0 Γ (X.lower cb) {R with ca:=a,cc:=n,cl:=R.cl ++ [Z3 cb rc],ends:=R.ends.set i 1} w1 Mn none (fun j=>if j=i then some (.inr 1) else ft j):=by
 have T2:∀b,b<w.heap.size->¬R.fp b->w1.heap[b]? =w.heap[b]?:=hg.md.block;have hle:∀j,j<(R.cl ++ [Z3 cb rc]).length->Y.nil j=false->j<R.cl.length:=fun j hj u7=>by
  rw[List.length_append,List.length_singleton]at hj;rcases Nat.lt_or_ge j R.cl.length with z|z
  ·exact z
  ·have:j=i:=by omega
   rw[this,hn]at u7;cases u7
 have hold:∀j c,(R.cl ++ [Z3 cb rc])[j]? =some c->Y.nil j=false->R.cl[j]? =some c:=fun j c hc u7=>by
  rcases bp0 hc with z|⟨z,_⟩
  ·exact z
  ·rw[z,hi,hn]at u7;cases u7
 have r3:R.ends.length=R.m:=h.mem.dy0;have hfp:∀b,Rn.fp {R with ca:=a,cc:=n,cl:=R.cl ++ [Z3 cb rc],ends:=R.ends.set i 1} b->R.fp b\/w.heap.size <=b:=hg.fp;have hnf:∀b,b<w.heap.size->¬R.fp b->¬Rn.fp {R with ca:=a,cc:=n,cl:=R.cl ++ [Z3 cb rc],ends:=R.ends.set i 1} b:=fun b hb hf z=>(hfp b z).elim hf (Nat.not_le_of_lt hb);refine⟨hg.m,h.m,fun j c hc _=>?_,fun j c hc u7=>?_,fun b hb=>?_,fun j hj u7=>?_,fun j b hb=>?_,fun b hb=>?_,h.fz0,fun z=>hg.md.os.trans (h.os z),fun z=>hg.md.output.trans (h.output z),Nat.le_trans h.size hg.md.size,h.L2,h.is0,h.chy,fun g s z6 hs=>?_,fun j k hj hk u7 hnk=>h.xk0 j k (hle j hj u7) (hle k hk hnk) u7 hnk,fun j k hj hk u7 hnk=>h.qr0 j k (hle j hj u7) (hle k hk hnk) u7 hnk,fun j k c d hc hd u7 hnk=>h.Bt0 j k c d (hold j c hc u7) (hold k d hd hnk) u7 hnk,fun j c hc u7=>h.ry j c (hold j c hc u7) u7,h.dn,h.pend,?_,?_,fun b hb=>h.D4 b (Nat.le_trans hg.md.size hb),h.lh0,⟨h.base.le,fun b hb=>hb.elim (h.base.low b) fun e=>by have:=h.base.le;have:=h.size;omega,h.base.pl⟩⟩
 ·rcases bp0 hc with z|⟨z,rfl⟩
  ·have hjl:=(List.getElem?_eq_some_iff.1 z).1;obtain⟨f,h1,h2⟩:=h.cl j c z (by simp);have R2:j≠i:=by omega
   refine⟨f,by simp[R2,h1],h2.P5 (Γ':=Γ) (hY.trans _) (hY.refl _ Γ.gm) (fun b hb=>T2 b (h.pv j b hb).1 (h.pv j b hb).2.1) hg.md.size (fun _=>rfl) (fun u7=>?_) rfl rfl rfl rfl (by show(R.ends.set i 1)[j]? =_;rw[List.getElem?_set_ne (Ne.symm R2)])⟩;exact T2 _ (h.ck j c z u7).he.choose_spec.lt (h.side j hjl u7).2.2.2
  ·rw[hi]at z;subst z;refine⟨.inr 1,by simp,.inl ⟨hn,rfl,rfl,?_⟩⟩;show(R.ends.set j 1)[j]? =some 1;simp[r3,him]
 ·have w6:=hold j c hc u7;have hk:=h.ck j c w6 u7;have hjl:=(List.getElem?_eq_some_iff.1 w6).1;have hs:=h.side j hjl u7;refine⟨hk.top,(T2 _ hk.ha.lt hs.2.2.1).trans hk.ha,?_,hk.bo0,hk.stay,hk.ch⟩;obtain⟨en,he⟩:=hk.he;exact⟨en,(T2 _ he.lt hs.2.2.2).trans he⟩
 ·rcases hfp b hb with z|z
  ·exact h.fpB b z
  ·exact Nat.le_trans h.size z
 ·have hjl:=hle j hj u7;have hs:=h.side j hjl u7;have hk:=h.ck j _ (List.getElem?_eq_getElem hjl) u7;exact⟨hs.1,hs.2.1,hnf _ hk.ha.lt hs.2.2.1,hnf _ hk.he.choose_spec.lt hs.2.2.2⟩
 ·have hp:=h.pv j b hb;exact⟨Nat.lt_of_lt_of_le hp.1 hg.md.size,hnf b hp.1 hp.2.1,hp.2.2.1,fun k hk hnk=>hp.2.2.2.1 k (hle k hk hnk) hnk,hp.2.2.2.2⟩
 ·have hm:=h.mn b hb;have n7:b<w.heap.size:=by
   rcases Nat.lt_or_ge b w.heap.size with z|z
   ·exact z
   ·exact absurd (hm.1.symm.trans (Array.getElem?_eq_none z)) hb
  exact⟨(T2 b n7 hm.2.1).trans hm.1,hnf b n7 hm.2.1,fun k hk hnk=>hm.2.2 k (hle k hk hnk) hnk⟩
 ·obtain⟨j,c,h1,h2⟩:=h.R3 g s z6 hs;have hjl:=(List.getElem?_eq_some_iff.1 h1).1;exact⟨j,c,by show(R.cl ++ [Z3 cb rc])[j]? =some c;rw[List.getElem?_append_left hjl];exact h1,h2⟩
 ·show X.cap <=(R.cl ++ [Z3 cb rc]).length;have:=h.cap;simp;omega
 ·have hu:=h.under.mono hg.md.size;have n6:cb<w1.heap.size:=(hg.m.blk i (Z3 cb rc) (by show(R.cl ++ [Z3 cb rc])[i]? =_;rw[<- hi];simp)).lt;exact⟨hu.stay,hu.X3,hu.I7,hu.L2,fun b hb=>by
   rcases hb with z|rfl
   ·exact hu.low b z
   ·exact n6⟩
theorem Fix.hire (hY:LeOk Y) (h:Fix Y fb q w0 Γ X R w Mn none ft) (hn:Y.nil i=false) (hi:R.cl.length=i) {cb rc S6 y6:Nat} {a:Option Addr} {n:Nat} {top:List Frame} {s:B5} (hs:s.ch=R.yb) (hM:H4 w1 w0.heap.size {R with ca:=a,cc:=n,cl:=R.cl ++ [Z3 cb rc]}) (n2:w.heap.size <=w1.heap.size) (_hos:w1.os=w.os/\w1.output=w.output)
  (T2:∀b,b<w.heap.size->¬R.fp b->w1.heap[b]? =w.heap[b]?) (hfp:∀b,Rn.fp {R with ca:=a,cc:=n,cl:=R.cl ++ [Z3 cb rc]} b->R.fp b\/w.heap.size <=b) (hcb:w.heap.size <=cb) (hrc:w.heap.size <=rc/\rc<w1.heap.size) (hab:w.heap.size <=S6) (heb:w.heap.size <=y6) (hA:O1 w1 S6 #[.p cb] 91 (0,0)) (hE:O1 w1 y6 #[.bool false] 4 (0,0))
  (hnA:¬Rn.fp {R with ca:=a,cc:=n,cl:=R.cl ++ [Z3 cb rc]} S6) (hnE:¬Rn.fp {R with ca:=a,cc:=n,cl:=R.cl ++ [Z3 cb rc]} y6) (hT:Fl0 top S6 y6 R.rb cb) :
  Fix Y fb q w0 (Γ.add i X.n S6 y6 top) (vk0 X cb rc s) {R with ca:=a,cc:=n,cl:=R.cl ++ [Z3 cb rc]} w1 Mn (some i) ft:=by
 have hle:∀j,j<(R.cl ++ [Z3 cb rc]).length->j≠i->j<R.cl.length:=fun j hj R2=>by
  rw[List.length_append,List.length_singleton]at hj;omega
 have hold:∀j c,(R.cl ++ [Z3 cb rc])[j]? =some c->j≠i->R.cl[j]? =some c:=fun j c hc R2=>by
  rcases bp0 hc with z|⟨z,_⟩
  ·exact z
  ·exact absurd (z.trans hi) R2
 have B1:∀c,(R.cl ++ [Z3 cb rc])[i]? =some c->c=Z3 cb rc:=fun c hc=>by
  rw[<- hi]at hc;simp at hc;exact hc.symm
 have hnf:∀b,b<w.heap.size->¬R.fp b->¬Rn.fp {R with ca:=a,cc:=n,cl:=R.cl ++ [Z3 cb rc]} b:=fun b hb hf z=>(hfp b z).elim hf (Nat.not_le_of_lt hb);have hgi:∀{j},j≠i->(Γ.add i X.n S6 y6 top).gi j=Γ.gi j:=fun hj=>A5 hj;have Ge0:(Γ.add i X.n S6 y6 top).gi i=X.n:=W4;have Ks0:∀{j},j≠i->(Γ.add i X.n S6 y6 top).ab j=Γ.ab j:=fun hj=>A5 hj;have Kt0:(Γ.add i X.n S6 y6 top).ab i=S6:=W4;have tk0:∀{j},j≠i->(Γ.add i X.n S6 y6 top).eb j=Γ.eb j:=fun hj=>A5 hj;have vl0:(Γ.add i X.n S6 y6 top).eb i=y6:=W4;have htn:∀{j},j≠i->(Γ.add i X.n S6 y6 top).top j=Γ.top j:=fun hj=>A5 hj;have hti:(Γ.add i X.n S6 y6 top).top i=top:=W4;have hpn:∀{j},j≠i->(Γ.add i X.n S6 y6 top).pv j=Γ.pv j:=fun hj=>A5 hj;have hpi:(Γ.add i X.n S6 y6 top).pv i=fun _=>False:=W4;have hgn:∀j,j<R.cl.length->Y.nil j=false->Γ.gi j≠X.n:=fun j hj u7 e=>by
  have:=(h.ck j _ (List.getElem?_eq_getElem hj) u7).bo0;omega
 have m6:∀g,g≠0->(vk0 X cb rc s).G1 g=X.G1 g:=fun g hg=>Go.ConcN.upd_ne _ _ hg;have Gf0:∀g,g≠X.n->(vk0 X cb rc s).stay g=X.stay g:=fun g hg=>Go.ConcN.upd_ne _ _ hg;have Gg0:∀b,b<w.heap.size->(∀k,k<R.cl.length->Y.nil k=false->b≠Γ.ab k/\b≠Γ.eb k)->∀k,k<(R.cl ++ [Z3 cb rc]).length->Y.nil k=false->b≠(Γ.add i X.n S6 y6 top).ab k/\b≠(Γ.add i X.n S6 y6 top).eb k:=fun b hb hk k hkl hnk=>by
  by_cases A8:k=i
  ·rw[A8,Kt0,vl0];constructor <;> omega
  ·rw[Ks0 A8,tk0 A8];exact hk k (hle k hkl A8) hnk
 refine⟨hM,h.m,fun j c hc hj=>?_,fun j c hc u7=>?_,fun b hb=>?_,fun j hj u7=>?_,fun j b hb=>?_,fun b hb=>?_,Nat.succ_pos _,(fun z=>by cases z),(fun z=>by cases z),Nat.le_trans h.size n2,h.L2,?_,.inl h.chy,fun g s' z6 hs'=>?_,fun j k hj hk u7 hnk=>?_,fun j k hj hk u7 hnk=>?_,fun j k c d hc hd u7 hnk=>?_,fun j c hc u7=>?_,rfl,rfl,?_,?_,fun b hb=>h.D4 b (Nat.le_trans n2 hb),(fun z=>by cases z),⟨h.base.le,fun b hb=>?_,h.base.pl⟩⟩
 ·have R2:j≠i:=fun e=>hj (by rw[e]);have z:=hold j c hc R2;have hjl:=(List.getElem?_eq_some_iff.1 z).1;obtain⟨f,h1,h2⟩:=h.cl j c z (by simp);refine⟨f,h1,h2.P5 (Γ':=Γ.add i X.n S6 y6 top) (hY.trans _) (hY.refl _ Γ.gm) (fun b hb=>T2 b (h.pv j b hb).1 (h.pv j b hb).2.1) n2 (fun u7=>?_) (fun u7=>?_) (tk0 R2) (hgi R2) (htn R2) (hpn R2) rfl⟩
  ·have:=(h.ck j c z u7).bo0;exact m6 _ (by omega)
  ·exact T2 _ (h.ck j c z u7).he.choose_spec.lt (h.side j hjl u7).2.2.2
 ·by_cases R2:j=i
  ·subst R2;obtain rfl:=B1 c hc;refine⟨by rw[hti,Kt0,vl0];exact hT,by rw[Kt0];exact hA,⟨false,by rw[vl0];exact hE⟩,⟨by rw[Ge0];exact h.fz0,by rw[Ge0];exact Nat.lt_succ_self _⟩,by rw[Ge0];exact Go.ConcN.upd_same _ _ _,.inr rfl⟩
  ·have z:=hold j c hc R2;have hk:=h.ck j c z u7;have hjl:=(List.getElem?_eq_some_iff.1 z).1;have hs:=h.side j hjl u7;refine⟨by rw[htn R2,Ks0 R2,tk0 R2];exact hk.top,by rw[Ks0 R2];exact(T2 _ hk.ha.lt hs.2.2.1).trans hk.ha,?_,⟨by rw[hgi R2];exact hk.bo0.1,by rw[hgi R2];exact Nat.lt_succ_of_lt hk.bo0.2⟩,by rw[hgi R2,Gf0 _ (hgn j hjl u7)];exact hk.stay,.inl hk.ch⟩;obtain⟨en,he⟩:=hk.he;exact⟨en,by rw[tk0 R2];exact(T2 _ he.lt hs.2.2.2).trans he⟩
 ·rcases hfp b hb with z|z
  ·exact h.fpB b z
  ·exact Nat.le_trans h.size z
 ·by_cases R2:j=i
  ·subst R2;rw[Kt0,vl0];exact⟨Nat.le_trans h.size hab,Nat.le_trans h.size heb,hnA,hnE⟩
  ·have hjl:=hle j hj R2;have hs:=h.side j hjl u7;have hk:=h.ck j _ (List.getElem?_eq_getElem hjl) u7;rw[Ks0 R2,tk0 R2];exact⟨hs.1,hs.2.1,hnf _ hk.ha.lt hs.2.2.1,hnf _ hk.he.choose_spec.lt hs.2.2.2⟩
 ·by_cases R2:j=i
  ·subst R2;rw[hpi]at hb;exact hb.elim
  ·rw[hpn R2]at hb;have hp:=h.pv j b hb;refine⟨Nat.lt_of_lt_of_le hp.1 n2,hnf b hp.1 hp.2.1,hp.2.2.1,Gg0 b hp.1 hp.2.2.2.1,fun k hk hkp=>?_⟩;by_cases A8:k=i
   ·subst A8;rw[hpi]at hkp;exact hkp
   ·rw[hpn A8]at hkp;exact hp.2.2.2.2 k hk hkp
 ·have hm:=h.mn b hb;have n7:b<w.heap.size:=by
   rcases Nat.lt_or_ge b w.heap.size with z|z
   ·exact z
   ·exact absurd (hm.1.symm.trans (Array.getElem?_eq_none z)) hb
  exact⟨(T2 b n7 hm.2.1).trans hm.1,hnf b n7 hm.2.1,Gg0 b n7 hm.2.2⟩
 ·rw[Gf0 0 (by have:=h.fz0;omega)];exact h.is0
 ·rw[m6 g z6]at hs';obtain⟨j,c,h1,h2,h3,h4,_⟩:=h.R3 g s' z6 hs';have hjl:=(List.getElem?_eq_some_iff.1 h1).1;have R2:j≠i:=by omega
  exact⟨j,c,by show(R.cl ++ [Z3 cb rc])[j]? =some c;rw[List.getElem?_append_left hjl];exact h1,h2,by rw[hgi R2];exact h3,h4,fun e=>R2 (Option.some.inj e)⟩
 ·intro e;by_cases R2:j=i <;> by_cases A8:k=i
  ·rw[R2,A8]
  ·rw[R2,Ge0,hgi A8]at e;exact absurd e.symm (hgn k (hle k hk A8) hnk)
  ·rw[A8,Ge0,hgi R2]at e;exact absurd e (hgn j (hle j hj R2) u7)
  ·rw[hgi R2,hgi A8]at e;exact h.xk0 j k (hle j hj R2) (hle k hk A8) u7 hnk e
 ·have hlo:∀j,j<R.cl.length->Y.nil j=false->Γ.eb j<w.heap.size:=fun j hj u7=>(h.ck j _ (List.getElem?_eq_getElem hj) u7).he.choose_spec.lt;intro e;by_cases R2:j=i <;> by_cases A8:k=i
  ·rw[R2,A8]
  ·rw[R2,vl0,tk0 A8]at e;have:=hlo k (hle k hk A8) hnk;omega
  ·rw[A8,vl0,tk0 R2]at e;have:=hlo j (hle j hj R2) u7;omega
  ·rw[tk0 R2,tk0 A8]at e;exact h.qr0 j k (hle j hj R2) (hle k hk A8) u7 hnk e
 ·have hlo:∀j c,R.cl[j]? =some c->Y.nil j=false->c.rc<w.heap.size:=fun j c hc u7=>h.under.I7 _ (h.ck j c hc u7).ch;intro e;by_cases R2:j=i <;> by_cases A8:k=i
  ·rw[R2,A8]
  ·subst R2;obtain rfl:=B1 c hc;have:=hlo k d (hold k d hd A8) hnk;have e:rc=d.rc:=e;omega
  ·subst A8;obtain rfl:=B1 d hd;have:=hlo j c (hold j c hc R2) u7;have e:c.rc=rc:=e;omega
  ·exact h.Bt0 j k c d (hold j c hc R2) (hold k d hd A8) u7 hnk e
 ·by_cases R2:j=i
  ·subst R2;obtain rfl:=B1 c hc;have:=h.under.I7 _ h.chy;show rc≠R.yb;omega
  ·exact h.ry j c (hold j c hc R2) u7
 ·show X.cap+1 <=(R.cl ++ [Z3 cb rc]).length;have:=h.cap;simp;omega
 ·have hu:=h.under.mono n2;have n6:cb<w1.heap.size:=(hM.blk i (Z3 cb rc) (by show(R.cl ++ [Z3 cb rc])[i]? =_;rw[<- hi];simp)).lt;refine⟨fun g p hp=>?_,hu.X3,fun b hb=>?_,hu.L2,fun b hb=>?_⟩
  ·by_cases hg:g=X.n
   ·subst hg;have hp':p∈Go.ConcN.upd X.stay X.n [((⟨cb,2,none⟩:Addr),Value.chan (some rc))] X.n:=hp;rw[Go.ConcN.upd_same]at hp';simp at hp';rw[hp'];exact n6
   ·rw[Gf0 g hg]at hp;exact hu.stay g p hp
  ·rcases hb with z|rfl
   ·exact hu.I7 b z
   ·exact hrc.2
  ·rcases hb with(z|rfl)|rfl
   ·exact hu.low b z
   ·exact n6
   ·exact hrc.2
 ·have h1:=h.base.le;have h2:=h.size;rcases hb with(z|rfl)|rfl
  ·exact h.base.low b z
  ·omega
  ·omega
end
end
end Go.Vy.Sc
end
section
namespace Go.Vy.Sc
open Go Go.Conc Go.Yc Go.RowKit Go.Proofs Go.Proofs.YtnifpkopeheodaaGreat Try
open Go.Vc Go.Wg
attribute [local irreducible] KK
def tpT (w:World) (t n s:Nat) (m:Gm):Tape:=fun j q=>if 3 <=j then m (j-3) else(pz0 (pz0 (pz0 w 0 t) 1 n) 2 s).tape j q
theorem tpm (U w:World) (t n s d:Nat) (m:Gm):gm (Yc.j3 U (tpT w t n s m) d)=m:=funext fun i=>by
 show(if 3 <=i+3 then m (i+3-3) else(pz0 (pz0 (pz0 w 0 t) 1 n) 2 s).tape (i+3) (.sched 0))=m i;rw[if_pos (by omega),Nat.add_sub_cancel]
theorem tp1 (U w:World) (t n s d:Nat) (m:Gm):gh (Yc.j3 U (tpT w t n s m) d) 1=n:=rfl
structure xm0 {P:Program} (K:K8 P) (beg:K.S->fv0 K.S K.L) (u:World) (F:Nat->Prop):Prop where
 inv:K.Inv (K.sOf (gh u 0)) (gm u) u F
 W2:gh u 1=0
 on:gh u 2=0
 out:K.out (gh u 0)=beg (K.sOf (gh u 0))
 os:u.os=K.base.os
 output:u.output=K.base.output
 at_:K.BAt (gh u 0)
structure iu0 (Y:Sys) (fb:Nat->FuncId) (caps:Nat->Array Value) (fv:Nat->Value) (ba sa:Option Addr) (sn:Nat) (sc:Nat->Int):Prop where
 sys:li0 Y
 m1:Y.m <=16
 sn1:sn <=262144
 bsl:SL ba Y.m
 ssl:SL sa sn
 fn:∀i,i<Y.m->(Y.nil i=true/\fv i= .nilFunc)\/(Y.nil i=false/\fv i= .func (.func (fb i)) #[] (caps i)/\∃fn,Tryz.prog.funcs[fb i]? =some fn/\fn.body.isSome=true/\(fn.name== "runtime.NumGoroutine")=false)
 W2:(Y.pn sc sn).W2.length <=1000000000
 body:∀(base:World) (i cb:Nat) (top:List Frame) (u:World) (F:Nat->Prop),i<Y.m->Y.nil i=false->xm0 (Y.cfg fb (Y.pn sc sn) base i cb top) (Y.beg i) u F->l8 (Y.cfg fb (Y.pn sc sn) base i cb top) (G (Frame.enter Tryz.prog (fb i) (#[] ++ #[.p cb]++caps i) .normal) top) u
def ai0 {L:Type}:Option (L ⊕ Nat)->Int
 |some (.inr x)=>x
 |_=>0
def Qz0 (Y:Sys) (j:Nat):Option (Y.L ⊕ Nat)->Stp
 |some (.inl l)=>Y.stp j l
 |_=>sp0
def r8 {L:Type}:Option (L ⊕ Nat)->Option (L ⊕ Nat)
 |some (.inl _)=>some (.inr 0)
 |x=>x
structure Tie (Y:Sys) (rb0:Nat) (p:PR Y) (R:Rn):Prop where
 rb:R.rb=rb0
 evs:R.evs=p.evs
 W2:R.W2=p.W2
 used:R.used=p.used
 len:R.cl.length=p.ft.length
 W1:∀j c,R.cl[j]? =some c->c.W1=p.who.count (some j)
 ends:∀j,j<Y.m->R.ends[j]? =some (ai0 p.ft[j]?)
namespace Sys
section
variable {Y:Sys}
theorem Ku0 (p:PR Y):p.W2 <+: (Y.bgn p).W2:=by
 unfold bgn;split
 ·exact List.prefix_refl _
 ·exact List.prefix_append _ _
theorem Gh0 (p:PR Y) (i:Nat):p.W2 <+: (Y.P5 p i).W2:=by
 unfold P5;split
 ·exact List.prefix_append _ _
 ·exact List.prefix_refl _
theorem Gi0 (p:PR Y) (e:Int):p.W2 <+: (Y.step p e).W2:=by
 unfold step;split
 ·exact Gh0 _ _
 ·exact List.prefix_refl _
theorem Gj0 {n k:Nat}:(Y.P4 n).W2 <+: (Y.P4 (n+k)).W2:=by
 induction k with
 |zero=>exact List.prefix_refl _
 |succ k ih=>exact ih.trans (Ku0 _)
theorem Gk0 {sc:Nat->Int} {n k:Nat}:(Y.pn sc n).W2 <+: (Y.pn sc (n+k)).W2:=by
 induction k with
 |zero=>exact List.prefix_refl _
 |succ k ih=>exact ih.trans (Gi0 _ _)
theorem da0:∀(n j:Nat),(Y.P4 n).who.count (some j)=0
 |0,_=>rfl
 |n+1,j=>by
  show(Y.bgn (Y.P4 n)).who.count (some j)=0;unfold bgn;split
  ·exact da0 n j
  ·simp[da0 n j]
theorem vm0:∀n,(Y.P4 n).evs=[]/\(Y.P4 n).used=0
 |0=>⟨rfl,rfl⟩
 |n+1=>by
  show(Y.bgn (Y.P4 n)).evs=[]/\(Y.bgn (Y.P4 n)).used=0;unfold bgn;split <;> exact vm0 n
theorem ho0:∀n,(Y.P4 n).outs.length <=n
 |0=>Nat.le_refl _
 |n+1=>by
  show(Y.bgn (Y.P4 n)).outs.length <=n+1;have:=ho0 n;unfold bgn;split <;> simp <;> omega
theorem Gl0 (p:PR Y) (e:Int):(Y.step p e).evs.length <=p.evs.length+1/\(Y.step p e).outs.length <=p.outs.length+1:=by
 unfold step;split
 ·unfold P5;split <;> simp
 ·simp
theorem xn0 (sc:Nat->Int):∀n,(Y.pn sc n).evs.length <=n/\(Y.pn sc n).outs.length <=Y.m+n
 |0=>by
  have h1:=(vm0 (Y:=Y) Y.m).1;have h2:=ho0 (Y:=Y) Y.m;show(Y.P4 Y.m).evs.length <=0/\_;rw[h1];exact⟨Nat.le_refl _,by simpa [pn]using h2⟩
 |n+1=>by
  have h1:=xn0 sc n;have h2:=Gl0 (Y:=Y) (Y.pn sc n) (sc n);show(Y.step (Y.pn sc n) (sc n)).evs.length <=_/\(Y.step (Y.pn sc n) (sc n)).outs.length <=_;omega
theorem vn0 {sc:Nat->Int} {n:Nat} (h:Y.rds (Y.pn sc n)=[]):∀k,Y.pn sc (n+k)=Y.pn sc n
 |0=>rfl
 |k+1=>by
  show Y.step (Y.pn sc (n+k)) (sc (n+k))=_;rw[vn0 h k];unfold step;rw[h];rfl
theorem Ag0 {p:PR Y} {j i:Nat} (h:(Y.rds p)[j]? =some i):i<Y.m/\Y.eh0 p i=true:=by
 have:=List.mem_of_getElem? h;simpa [rds]using this
end
end Sys
section
variable {Y:Sys}{fb:Nat->FuncId}{caps:Nat->Array Value}{fv:Nat->Value}{ba sa:Option Addr}{sn:Nat}{sc:Nat->Int}{Mn:Nat->Option Obj}{w0:World}{rb0:Nat}
variable (Y fb sn sc Mn w0 rb0) in
def JB (i:Nat) (X:Gh) (R:Rn) (w:World):Prop :=
 i <=Y.m/\(∃Γ,Main Y fb (Y.pn sc sn) w0 Γ X R w Mn (fun j=>(Y.P4 i).ft[j]?) (Y.P4 i).s)/\Tie Y rb0 (Y.P4 i) R/\R.W7=List.replicate Y.m sp0/\R.stuck=false
variable (Y fb sn sc Mn w0 rb0) in
def J2 (n:Nat) (X:Gh) (R:Rn) (w:World):Prop :=
 n <=sn/\(∃Γ,Main Y fb (Y.pn sc sn) w0 Γ X R w Mn (fun j=>(Y.pn sc n).ft[j]?) (Y.pn sc n).s)/\Tie Y rb0 (Y.pn sc n) R/\R.W7=List.replicate Y.m sp0/\R.stuck=false
variable (Y fb sn sc Mn w0 rb0) in
def JE (i:Nat) (X:Gh) (R:Rn) (w:World):Prop :=
 i <=Y.m/\(∃Γ,Main Y fb (Y.pn sc sn) w0 Γ X R w Mn (fun j=>if j<i then r8 ((Y.pn sc sn).ft[j]?) else(Y.pn sc sn).ft[j]?) (Y.pn sc sn).s)/\Tie Y rb0 (Y.pn sc sn) R /\
  (∀j,j<Y.m->R.W7[j]? =some (if j<i then Qz0 Y j ((Y.pn sc sn).ft[j]?) else sp0))/\R.stuck=((Y.pn sc sn).ft.any (·.isLeft)&&(Y.rds (Y.pn sc sn)).isEmpty)
theorem Main.get {Γ:R9} {X:Gh} {R:Rn} {w:World} {q:PR Y} {ft:Nat->Option (Y.L ⊕ Nat)} {s:Y.S} (h:Main Y fb q w0 Γ X R w Mn ft s):∀b,Mn b≠none->w.heap[b]? =Mn b:=fun b hb=>(h.fix.mn b hb).1
theorem qt0 {i:Nat} (hi:i <=Y.m):Y.Le (Y.P4 i) (Y.pn sc sn):=by
 have h1:Y.Le (Y.P4 i) (Y.P4 Y.m):=by
  have:=Sys.Kp0 (Y:=Y) (n:=i) (k:=Y.m-i)
  rwa [Nat.add_sub_cancel' hi]at this
 have h2:Y.Le (Y.pn sc 0) (Y.pn sc (0+sn)):=Sys.Nw0;rw[Nat.zero_add]at h2;exact h1.trans h2
theorem tl0 {n:Nat} (hi:n <=sn):Y.Le (Y.pn sc n) (Y.pn sc sn):=by
 have:=Sys.Nw0 (Y:=Y) (sc:=sc) (n:=n) (k:=sn-n)
 rwa [Nat.add_sub_cancel' hi]at this
theorem xo0 {i:Nat} (hi:i <=Y.m):(Y.P4 i).W2 <+: (Y.pn sc sn).W2:=by
 have h1:(Y.P4 i).W2 <+: (Y.P4 Y.m).W2:=by
  have:=Sys.Gj0 (Y:=Y) (n:=i) (k:=Y.m-i)
  rwa [Nat.add_sub_cancel' hi]at this
 have h2:(Y.pn sc 0).W2 <+: (Y.pn sc (0+sn)).W2:=Sys.Gk0;rw[Nat.zero_add]at h2;exact h1.trans h2
theorem Gm0 {n:Nat} (hi:n <=sn):(Y.pn sc n).W2 <+: (Y.pn sc sn).W2:=by
 have:=Sys.Gk0 (Y:=Y) (sc:=sc) (n:=n) (k:=sn-n)
 rwa [Nat.add_sub_cancel' hi]at this
theorem jv0 {p:PR Y} {i:Nat} (hi:p.ft.length=i) (x:Y.L ⊕ Nat):(fun j=>if j=i then some x else p.ft[j]?)=fun j=>(p.ft ++ [x])[j]?:=by
 funext j;subst hi;rcases Nat.lt_trichotomy j p.ft.length with h|h|h
 ·rw[if_neg (by omega),List.getElem?_append_left h]
 ·subst h;simp
 ·rw[if_neg (by omega),List.getElem?_eq_none (by omega),List.getElem?_eq_none (by simp;omega)]
theorem Ah0 {p:PR Y} {i:Nat} (hi:i<p.ft.length) (x:Y.L ⊕ Nat):(fun j=>if j=i then some x else p.ft[j]?)=fun j=>(p.ft.set i x)[j]?:=by
 funext j;by_cases h:j=i
 ·subst h;simp[hi]
 ·rw[if_neg h,List.getElem?_set_ne (Ne.symm h)]
theorem hr0 {e:List Int} {i:Nat} {f:Y.L ⊕ Nat} {g:Nat->Option (Y.L ⊕ Nat)} {m:Nat} (h:∀j,j<m->e[j]? =some (ai0 (g j))) (hl:e.length=m) (h0:ai0 (g i)=0) (j:Nat) (hj:j<m):(hh0 e i f)[j]? =some (ai0 (if j=i then some f else g j)):=by
 cases f with
 |inl l=>
  show e[j]? =_;by_cases R2:j=i
  ·subst R2;rw[h j hj,h0,if_pos rfl];rfl
  ·rw[h j hj,if_neg R2]
 |inr x=>
  show(e.set i (x:Int))[j]? =_;by_cases R2:j=i
  ·subst R2;rw[if_pos rfl];simp[hl,hj];rfl
  ·rw[List.getElem?_set_ne (Ne.symm R2),h j hj,if_neg R2]
set_option maxRecDepth 20000 in
theorem Ra0 (hO:iu0 Y fb caps fv ba sa sn sc) {Post:Value->World->Prop} {i:Nat} {X:Gh} {R:Rn} {w w':World} {a:Option Addr} {n cb rc:Nat} (hi:i<Y.m) (hJ:JB Y fb sn sc Mn w0 rb0 i X R w) (hf:fv i≠.nilFunc) (hcb:w.heap.size <=cb) (hrc:w.heap.size <=rc) (r3:cb≠rc) (X5:ChanAt w' rc)
  (hg:Rg R.fp w.heap.size w w' w0.heap.size {R with ca:=a,cc:=n,cl:=R.cl ++ [Z3 cb rc]}) {me0:Goroutine} (hk:∀X' R' u v,JB Y fb sn sc Mn w0 rb0 (i+1) X' R' u->Fin Tryz.prog Post X' 0 (Go.Conc.served me0 v) u) :
  Fin Tryz.prog Post (Gh.hire {X.lower cb with pend:=1,cap:=X.cap+1,dn:=0} ⟨R.yb,.i 0,me0⟩) X.n (born Tryz.prog (dcall 106 #[.p cb,fv i])) w':=by
 obtain⟨_,⟨Γ,hM⟩,hT,O9,X9⟩:=hJ;obtain⟨hn,hfv,fn,hfn,hbd,hnm⟩:Y.nil i=false/\fv i= .func (.func (fb i)) #[] (caps i)/\∃fn,Tryz.prog.funcs[fb i]? =some fn/\fn.body.isSome=true/\(fn.name== "runtime.NumGoroutine")=false:=by
  rcases hO.fn i hi with h|h
  ·exact absurd h.2 hf
  ·exact h
 have hF:=hM.fix;have hlen:R.cl.length=i:=hT.len.trans (Sys.M5 i);have hok:=Sys.ti0 (Y:=Y) i;have hle:Y.Le (Y.P4 (i+1)) (Y.pn sc sn):=qt0 (by omega);have hbg:Y.P4 (i+1)={Y.P4 i with s:=(Y.beg i (Y.P4 i).s).s,ft:=(Y.P4 i).ft ++ [(Y.beg i (Y.P4 i).s).k8],W2:=(Y.P4 i).W2++tell i (Y.P4 i).evs.length (Y.beg i (Y.P4 i).s).W2,outs:=(Y.P4 i).outs ++ [Y.beg i (Y.P4 i).s],who:=(Y.P4 i).who ++ [none]}:=by
  show Y.bgn (Y.P4 i)=_;unfold Sys.bgn;rw[Sys.M5 i,hn];rfl
 generalize hp:Y.P4 i=p at *;have hs:Y.sAt (Y.pn sc sn) p.outs.length=p.s:=Sys.Kq0 hok (by rw[<- hp];exact qt0 (by omega));have ho:Y.u4 (Y.pn sc sn) p.outs.length=Y.beg i p.s:=Sys.Ga0 (p':=Y.P4 (i+1)) (by rw[hbg]) hle;obtain⟨F,hinv,hFf⟩:=hM.inv;have I8:=hO.sys.vis _ _ _ _ hinv;refine Fin.chan (b:=rc) (k:=0) ⟨fun j x hx=>?_,(hF.under.A9 hrc).X3,(hF.under.A9 hrc).I7,(hF.under.A9 hrc).L2⟩ (fun z=>?_) (hF.D4 rc hrc) X5 ?_
 ·exact(hF.under.A9 hrc).stay j x hx
 ·rcases z with z|z
  ·have:=hF.under.low rc z;omega
  ·exact r3 z.symm
 have hrl:=X5.lt;have ct1:O1 w' cb ((Z3 cb rc).cells R.rb i) 149 (0,3):=hg.m.blk i (Z3 cb rc) (by show(R.cl ++ [Z3 cb rc])[i]? =_;rw[<- hlen];simp);have Fh0:∀b,b≠rc->(O2 w' rc nothing).heap[b]? =w'.heap[b]?:=fun b hb=>c5 _ _ (Ne.symm hb);have Xy0:O1 (O2 w' rc nothing) cb ((Z3 cb rc).cells R.rb i) 149 (0,3):=(Fh0 cb r3).trans ct1;have Bq0:(O2 w' rc nothing).heap.size=w'.heap.size:=by simp[O2]
 have cu1:¬Rn.fp {R with ca:=a,cc:=n,cl:=R.cl ++ [Z3 cb rc]} rc:=fun z=>by
  have hx:=X5;have own:∀{E:TypeId} {s n c:Nat} {a:Option Addr} {xs:List Value},Own w' w0.heap.size E s a n c xs->a≠none->rc=ab a->False:=fun h ha e=>by
   obtain⟨cur,hB,_⟩:=h.row ha;unfold ChanAt at hx;rw[e]at hx;unfold V0 at hB;rw[hx]at hB;cases hB
  have blk:∀{b:Nat} {cs:Array Value} {T:TypeId} {f:Nat×Nat},O1 w' b cs T f->rc=b->False:=fun h e=>by
   unfold ChanAt at hx;rw[e]at hx;unfold O1 at h;rw[hx]at h;cases h
  rcases z with e|e|e|⟨ha,e⟩|⟨ha,e⟩|⟨ha,e⟩|⟨j,c,hc,e⟩
  ·exact blk hg.m.run e
  ·exact blk hg.m.ends e
  ·exact blk hg.m.W7 e
  ·exact own hg.m.cls ha e
  ·exact own hg.m.evs ha e
  ·exact own hg.m.W2 ha e
  ·exact blk (hg.m.blk j c hc) e
 have hM2:H4 (O2 w' rc nothing) w0.heap.size {R with ca:=a,cc:=n,cl:=R.cl ++ [Z3 cb rc]}:=hg.m.congr fun b hb=>Fh0 b fun e=>cu1 (e▸hb);refine Fin.stay (l:=[(⟨cb,2,none⟩,.chan (some rc))]) (fun x hx=>?_) ?_
 ·simp at hx;subst hx;exact⟨Xy0.A0 2 rfl,by rw[Xy0.frozen];rfl⟩
 show Fin Tryz.prog Post (vk0 X cb rc ⟨R.yb,.i 0,me0⟩) X.n _ _;rw[hfv];refine Fn0 (i:=i) (c:=Z3 cb rc) hfn hbd hnm hM2 (by show(R.cl ++ [Z3 cb rc])[i]? =_;rw[<- hlen];simp) fun w1 top S6 y6 V4 lA lE hA hE cv1=>?_;have Qq0:w.heap.size <=w1.heap.size:=Nat.le_trans hg.md.size (by have:=V4.size;omega);have T2:∀b,b<w.heap.size->¬R.fp b->w1.heap[b]? =w.heap[b]?:=fun b hb hf=>by
  rw[V4.block b (by have:=hg.md.size;omega),Fh0 b (by omega)];exact hg.md.block b hb hf
 have hM1:=hM2.E0 V4;have Xz0:∀b,Rn.fp {R with ca:=a,cc:=n,cl:=R.cl ++ [Z3 cb rc]} b->b<(O2 w' rc nothing).heap.size:=fun b hb=>hM2.lt hb;have hsA:w.heap.size <=(O2 w' rc nothing).heap.size:=by rw[Bq0];exact hg.md.size
 have ja0:=hF.hire hO.sys.toLeOk (s:=⟨R.yb,.i 0,me0⟩) (top:=top) hn hlen rfl hM1 Qq0 ⟨V4.os.trans hg.md.os,V4.output.trans hg.md.output⟩ T2 hg.fp hcb ⟨hrc,by have:=V4.size;omega⟩ (by omega) (by omega) hA hE (fun z=>by have:=Xz0 _ z;omega) (fun z=>by have:=Xz0 _ z;omega) cv1;refine g9 _ _ fun nv=>?_;haveI:DecidablePred F:=fun _=>Classical.propDecidable _;refine ju0 F (be0 (τ:=tpT w1 p.outs.length 0 0 Γ.gm) (d:=w1.drawn) ?_);have Ya0:∀b,(Rn.fp {R with ca:=a,cc:=n,cl:=R.cl ++ [Z3 cb rc]} b\/Kept Y (Γ.add i X.n S6 y6 top) {R with ca:=a,cc:=n,cl:=R.cl ++ [Z3 cb rc]} Mn b)->¬F b:=fun b hb hFb=>by
  have hv:=I8 b hFb;have hff:=hFf b hFb;rcases hb with hb|hb|⟨k,hk,hnk,hb⟩|⟨j,hb⟩
  ·rcases hg.fp b hb with z|z
   ·exact hff.1 z
   ·omega
  ·exact hff.2 (.inl hb)
  ·by_cases A8:k=i
   ·subst A8;have h1:(Γ.add k X.n S6 y6 top).ab k=S6:=W4;have h2:(Γ.add k X.n S6 y6 top).eb k=y6:=W4;rw[h1,h2]at hb;omega
   ·have h1:(Γ.add i X.n S6 y6 top).ab k=Γ.ab k:=A5 A8;have h2:(Γ.add i X.n S6 y6 top).eb k=Γ.eb k:=A5 A8;rw[h1,h2]at hb;refine hff.2 (.inr (.inl ⟨k,?_,hnk,hb⟩));have hk':k<(R.cl ++ [Z3 cb rc]).length:=hk;rw[List.length_append,List.length_singleton]at hk';omega
  ·by_cases R2:j=i
   ·subst R2;have h1:(Γ.add j X.n S6 y6 top).pv j=fun _=>False:=W4;rw[h1]at hb;exact hb
   ·have h1:(Γ.add i X.n S6 y6 top).pv j=Γ.pv j:=A5 R2;rw[h1]at hb;exact hff.2 (.inr (.inr ⟨j,hb⟩))
 have hgi:(Γ.add i X.n S6 y6 top).gi i=X.n:=W4;have hti:(Γ.add i X.n S6 y6 top).top i=top:=W4;have vl0:(Γ.add i X.n S6 y6 top).eb i=y6:=W4;have hpk:Y.W1 (Y.pn sc sn) i p.outs.length=0:=by
  unfold Sys.W1;obtain⟨l,hl⟩:=hle.who;have hw:=hok.who;rw[<- hl,hbg];rw[List.take_append_of_le_length (by simp[hw]),List.take_of_length_le (by simp[hw])];have:=Sys.da0 (Y:=Y) i i;rw[hp]at this;simp[this]
 have g4:=n8.enter (q:=Y.pn sc sn) (i:=i) (t:=p.outs.length) (at_:=p.evs.length) (cb:=cb) (n0:=p.W2) (R0:={R with ca:=a,cc:=n,cl:=R.cl ++ [Z3 cb rc]}) (τ:=tpT w1 p.outs.length 0 0 Γ.gm) (d:=w1.drawn) hO.sys.toLeOk F ja0 Ya0 nv rfl (tpm _ _ _ _ _ _ _) (congrArg List.length hT.evs) ⟨Z3 cb rc,by show(R.cl ++ [Z3 cb rc])[i]? =_;rw[<- hlen];simp,rfl,.inl ⟨rfl,rfl,by
  show R.W2=_;rw[tp1,hT.W2];simp[tell],hpk.symm⟩⟩ ⟨R.na,R.nc,R.W2,rfl⟩ hn (by rw[vl0];exact hE)
 have S2:xm0 (Y.cfg fb (Y.pn sc sn) w0 i cb top) (Y.beg i) (Yc.j3 (H3 F w1) (tpT w1 p.outs.length 0 0 Γ.gm) w1.drawn) F:=by
  refine⟨?_,rfl,rfl,?_,?_,?_,⟨show p.outs.length <=300000 by have h1:=Sys.ho0 (Y:=Y) i;rw[hp]at h1;have h2:=hO.m1;omega,p,.inl ⟨i,by omega,hp.symm⟩,rfl,hs.symm,by rw[<- hp];exact Sys.M5 i⟩⟩
  ·show Y.Inv (Y.sAt (Y.pn sc sn) p.outs.length) (gm (Yc.j3 (H3 F w1) (tpT w1 p.outs.length 0 0 Γ.gm) w1.drawn)) _ _;rw[hs,tpm];refine hO.sys.loc _ _ w _ F hinv fun b hb=>?_;show(H3 F w1).heap[b]? =_;rw[u9 _ hb,T2 b (I8 b hb).1 (hFf b hb).1]
  ·show Y.u4 (Y.pn sc sn) p.outs.length=Y.beg i (Y.sAt (Y.pn sc sn) p.outs.length);rw[hs,ho]
  ·exact(V4.os.trans hg.md.os).trans (hF.os rfl)
  ·exact(V4.output.trans hg.md.output).trans (hF.output rfl)
 have hpr:=hO.body w0 i cb top _ F hi hn S2;have key:=es0 (Post:=Post) (z0:=.i 0) (me0:=me0) (st:=false) (X:=vk0 X cb rc ⟨R.yb,.i 0,me0⟩) (Γ:=Γ.add i X.n S6 y6 top) (Mn:=Mn) (ft:=fun j=>p.ft[j]?) (t:=p.outs.length) (at_:=p.evs.length) (n0:=p.W2) (R0:={R with ca:=a,cc:=n,cl:=R.cl ++ [Z3 cb rc]}) hO.sys (show Go.ConcN.upd X.G1 0 _ 0=_ from Go.ConcN.upd_same _ _ _) (by
   have h1:=(xo0 (Y:=Y) (sc:=sc) (sn:=sn) (i:=i+1) (by omega)).length_le;have h2:=hO.W2;rw[hbg]at h1;rw[ho];simp[tell]at h1;omega) (fun Γ' X' R' w2 hA=>?_) (by rw[hti];exact hpr) _ _ g4 (fun c hc=>by
    have w6:(R.cl ++ [Z3 cb rc])[i]? =some c:=hc;rw[<- hlen]at w6;simp at w6;rw[<- w6])
 ·rw[hgi]at key;exact key
 ·rcases hA with⟨_,hM',na,nc,c,c',hc,hcp,hR⟩|⟨z,_⟩
  ·have hc:(R.cl ++ [Z3 cb rc])[i]? =some c:=hc;have hc0:c=Z3 cb rc:=by rw[<- hlen]at hc;simp at hc;exact hc.symm
   rw[ho,jv0 (by rw[<- hp];exact Sys.M5 i)]at hM';refine hk X' R' w2 _ ?_;subst hR;refine⟨by omega,⟨Γ',by rw[hbg];exact hM'⟩,?_,O9,X9⟩;rw[hbg];refine⟨hT.rb,hT.evs,?_,hT.used,?_,fun j d hd=>?_,fun j hj=>?_⟩
   ·show p.W2++tell i R.evs.length (Y.u4 (Y.pn sc sn) p.outs.length).W2=_;rw[hT.evs,ho]
   ·show((R.cl ++ [Z3 cb rc]).set i c').length=_;simp[hT.len]
   ·have J5:((R.cl ++ [Z3 cb rc]).set i c')[j]? =some d:=hd;show d.W1=(p.who ++ [none]).count (some j);have hz:p.who.count (some j)=0:=by rw[<- hp];exact Sys.da0 i j
    rw[List.getElem?_set]at J5;by_cases R2:i=j
    ·subst R2;rw[if_pos rfl,if_pos (by simp[hlen])]at J5;obtain rfl:=Option.some.inj J5;rw[hcp,hc0];simp[hz]
    ·rw[if_neg R2]at J5;rcases bp0 J5 with z|⟨z,_⟩
     ·rw[hT.W1 j d z];simp
     ·omega
   ·show(hh0 R.ends i (Y.u4 (Y.pn sc sn) p.outs.length).k8)[j]? =some (ai0 ((p.ft ++ [(Y.beg i p.s).k8])[j]?));have B9:p.ft.length=i:=by rw[<- hp];exact Sys.M5 i
    have h0:=hr0 (Y:=Y) (f:=(Y.beg i p.s).k8) (g:=fun j=>p.ft[j]?) (i:=i) hT.ends (by rw[hF.mem.dy0,hF.m]) (by show ai0 p.ft[i]? =0;rw[List.getElem?_eq_none (by omega)];rfl) j hj;rw[ho,h0];exact congrArg (fun f:Nat->Option (Y.L ⊕ Nat)=>some (ai0 (f j))) (jv0 B9 (Y.beg i p.s).k8)
  ·cases z
end
end Go.Vy.Sc
end
section
namespace Go.Vy.Sc
open Go Go.Conc Go.Yc Go.RowKit Go.Proofs Go.Proofs.YtnifpkopeheodaaGreat Try
open Go.Vc Go.Wg
section
attribute [local irreducible] KK
theorem Kv0 {Post:Value->World->Prop} {X:Gh} {h:Nat} {H:Hid} {cs:List Frame} {cb:Nat} {df:Value} {me:Goroutine} {u:World} {K:World->Prop} (h0:(h==0)=false) {num:Nat} (hme:le0 cs cb df me) (hd:Bj0 Tryz.prog (y4 Tryz.prog 47 cb num) df u K)
  (cw1:∀cs2 u2,V8 u u2->u2.tape=u.tape->(∀fr,fr.fn=47->Leaves Tryz.prog fr u2 (.returned (.i num))->dx0 Tryz.prog Post X h H (G fr cs2) u2)->dx0 Tryz.prog Post X h H (G (Frame.enter Tryz.prog 47 #[.p cb] .normal) cs2) u2)
  (hk:∀u2 fr,V8 u u2->u2.tape=u.tape->K u2->fr.fn=83->Leaves Tryz.prog fr u2 (.returned (.tuple #[]))->dx0 Tryz.prog Post X h H (G fr cs) u2):dx0 Tryz.prog Post X h H (Go.Conc.served me (.bool true)) u:=by
 have n6:Cl Tryz.prog false (fun g x=>V8 u x->x.tape=u.tape->dx0 Tryz.prog Post X h H g x):=⟨fun g x hr hs he ht=>kw0 hr fun τ d=>by
  obtain⟨g',u',d',hF,hz⟩:=hs τ d;exact⟨g',u',by rw[h0];exact hF,fun he'=>be0 (hz (he.trans ⟨he'.size,he'.obj⟩) ht)⟩⟩
 exact hme.yes (y4 Tryz.prog 47 cb num) (fun g x=>V8 u x->x.tape=u.tape->dx0 Tryz.prog Post X h H g x) ⟨⟨n6,fun g x hz he ht=>zz0.2 _ _ fun hv=>hz hv he ht⟩,fun cs2 u2 hz he ht=>cw1 cs2 u2 he ht fun fr h3 h4=>hz fr h3 h4 he ht⟩ u K hd (fun u2 fr h1 h2 h3 he ht=>hk u2 fr he ht h1 h2 h3) (V8.refl u) rfl
section
variable {Y:Sys}{fb:Nat->FuncId}{caps:Nat->Array Value}{fv:Nat->Value}{ba sa:Option Addr}{sn:Nat}{sc:Nat->Int}{Mn:Nat->Option Obj}{w0:World}{rb0:Nat}
theorem Kw0 {Γ:R9} {i:Nat} {N:Nat->Prop}:(Γ.put i N).pv i=N:=by funext b;simp[R9.put]
theorem qu0 {q:PR Y} {Γ:R9} {X:Gh} {R R1:Rn} {w:World} {ft:Nat->Option (Y.L ⊕ Nat)} {i:Nat} (hF:Fix Y fb q w0 Γ X R w Mn none ft) (hfp:∀b,R1.fp b->R.fp b\/w.heap.size <=b) (hlen:R1.cl.length=R.cl.length) {F:Nat->Prop} (hFf:∀b,F b->¬R.fp b/\¬Kept Y Γ R Mn b) (hFs:∀b,F b->b<w.heap.size) (b:Nat)
  (hb:R1.fp b\/Kept Y (Γ.put i fun _=>False) R1 Mn b):¬(Γ.pv i b\/F b):=by
 intro hV;have hl:b<w.heap.size/\¬R.fp b:=by
  rcases hV with h|h
  ·exact⟨(hF.pv i b h).1,(hF.pv i b h).2.1⟩
  ·exact⟨hFs b h,(hFf b h).1⟩
 rcases hb with hb|hb|⟨k,hk,hnk,hb⟩|⟨j,hb⟩
 ·rcases hfp b hb with z|z
  ·exact hl.2 z
  ·omega
 ·rcases hV with h|h
  ·exact(hF.pv i b h).2.2.1 hb
  ·exact(hFf b h).2 (.inl hb)
 ·rw[hlen]at hk;rcases hV with h|h
  ·have:=(hF.pv i b h).2.2.2.1 k hk hnk;rcases hb with hb|hb
   ·exact this.1 hb
   ·exact this.2 hb
  ·exact(hFf b h).2 (.inr (.inl ⟨k,hk,hnk,hb⟩))
 ·by_cases R2:j=i
  ·subst R2;rw[Kw0]at hb;exact hb
  ·rw[tj0 R2]at hb;rcases hV with h|h
   ·exact(hF.pv i b h).2.2.2.2 j R2 hb
   ·exact(hFf b h).2 (.inr (.inr ⟨j,hb⟩))
theorem Fix.waits {q:PR Y} {Γ:R9} {X:Gh} {R:Rn} {w:World} {ft:Nat->Option (Y.L ⊕ Nat)} (hF:Fix Y fb q w0 Γ X R w Mn none ft) {i:Nat} {c:CB} (hc:R.cl[i]? =some c):(c.wt=true/\Y.nil i=false/\∃l,ft i=some (.inl l)/\Wt Y fb q w0 Γ X w i c l)\/(c.wt=false/\∃x,ft i=some (.inr x)/\(Y.nil i=true\/X.G1 (Γ.gi i)=none)):=by
 obtain⟨f,h1,h2⟩:=hF.cl i c hc (by simp);rcases h2 with⟨h3,h4,h5,h6⟩|⟨h3,h4⟩
 ·exact .inr ⟨h5,1,by rw[h1,h4],.inl h3⟩
 ·cases f with
  |inl l=>exact .inl ⟨h4.wt,h3,l,h1,h4⟩
  |inr x=>exact .inr ⟨h4.1,x,h1,.inr h4.2.2⟩
theorem Wt.W6 (hY:li0 Y) {q:PR Y} {Γ:R9} {X:Gh} {R:Rn} {w:World} {i:Nat} {c:CB} {l:Y.L} {F:Nat->Prop} {s:Y.S} {wn:World} {mn:Gm} {Fn:Nat->Prop} (hpv:∀b,Γ.pv i b↔b<wn.heap.size/\wn.heap[b]? ≠some nothing/\¬Fn b) (S7:∀b,Γ.pv i b->w.heap[b]? =wn.heap[b]?) (hos:wn.os=w0.os) (et0:wn.output=w0.output) (n2:wn.heap.size <=w.heap.size) (xp0:Y.le i mn Γ.gm)
  (hinv:Y.Inv s Γ.gm w F) (hFf:∀b,F b->¬Γ.pv i b) {u:World} (hu:∀b,Γ.pv i b\/F b->u.heap[b]? =w.heap[b]?) (cx1:w.heap.size <=u.heap.size) (cy1:u.os=w0.os) (Yb0:u.output=w0.output) (hs:Y.sAt q (gh u 0)=s) (hgm:gm u=Γ.gm) {cb:Nat} {top:List Frame}:(Y.cfg fb q w0 i cb top).g5 wn mn Fn u F:=by
 refine⟨Nat.le_trans n2 cx1,fun b hb h1 h2=>?_,?_,by rw[hgm];exact xp0,cy1.trans hos.symm,Yb0.trans et0.symm⟩
 ·have hp:=(hpv b).2 ⟨hb,h1,h2⟩;exact⟨(hu b (.inl hp)).trans (S7 b hp),fun z=>hFf b z hp⟩
 ·show Y.Inv (Y.sAt q (gh u 0)) (gm u) u F;rw[hs,hgm];exact hY.loc _ _ w u F hinv fun b hb=>hu b (.inr hb)
set_option maxRecDepth 20000 in
theorem Kx0 (hO:iu0 Y fb caps fv ba sa sn sc) {Post:Value->World->Prop} {n:Nat} {X:Gh} {R:Rn} {w:World} {i:Nat} {c:CB} (hJ:J2 Y fb sn sc Mn w0 rb0 n X R w) (hn:n<sn) (Nz0:(Y.rds (Y.pn sc n))[M9 (sc n) (Y.rds (Y.pn sc n)).length]? =some i) (hc:R.cl[i]? =some c) :
  ∃g z1 me1,g≠0/\X.G1 g=some ⟨c.rc,z1,me1⟩/\X.dn=0/\X.stay 0=[(⟨R.rb,7,none⟩,.chan (some R.yb))]/\(X.I7 R.yb/\∀i s2,i≠g->X.G1 i=some s2->s2.ch≠R.yb) /\
  ∀w' a nn me0,Rg R.fp w.heap.size w w' w0.heap.size {R with ea:=a,ec:=nn,evs:=R.evs ++ [(i,c.sp)],used:=R.used+1,cl:=R.cl.set i {c with W1:=c.W1+1,wt:=false}}->(∀X' R' u v,J2 Y fb sn sc Mn w0 rb0 (n+1) X' R' u->Fin Tryz.prog Post X' 0 (Go.Conc.served me0 v) u)->Fin Tryz.prog Post (X.pass 0 g (some ⟨R.yb,.i 0,me0⟩)) g (Go.Conc.served me1 (.bool true)) w':=by
 obtain⟨_,⟨Γ,hM⟩,hT,O9,X9⟩:=hJ;have hF:=hM.fix;obtain⟨him,hri⟩:=Sys.Ag0 Nz0;have hle:Y.Le (Y.pn sc (n+1)) (Y.pn sc sn):=tl0 (by omega);have Rb0:Y.Le (Y.pn sc n) (Y.pn sc sn):=tl0 (by omega);have hok:=Sys.vg0 (Y:=Y) sc n;have hlp:(Y.pn sc n).ft.length=Y.m:=Sys.N9 sc n;have vo0:Y.pn sc (n+1)=Y.P5 (Y.pn sc n) i:=by
  show Y.step (Y.pn sc n) (sc n)=_;unfold Sys.step;rw[Nz0]
 have Oa0:=(Gm0 (Y:=Y) (sc:=sc) (sn:=sn) (n:=n+1) (by omega)).length_le;generalize hp:Y.pn sc n=p at *;obtain⟨l,hl,hrl⟩:∃l,p.ft[i]? =some (.inl l)/\Y.rdy i l p.s=true:=by
  unfold Sys.eh0 at hri;cases hx:p.ft[i]? with
  |none=>rw[hx]at hri;cases hri
  |some f=>
   cases f with
   |inl l=>rw[hx]at hri;exact⟨l,rfl,hri⟩
   |inr x=>rw[hx]at hri;cases hri
 obtain⟨hwt,hnl,l',n5,hW⟩:c.wt=true/\Y.nil i=false/\∃l,p.ft[i]? =some (.inl l)/\Wt Y fb (Y.pn sc sn) w0 Γ X w i c l:=by
  rcases hF.waits hc with h|⟨_,x,h,_⟩
  ·exact h
  ·have h:p.ft[i]? =some (.inr x):=h;rw[hl]at h;cases h
 obtain rfl:l=l':=by rw[hl]at n5;exact Sum.inl.inj (Option.some.inj n5)
 have htn:Y.P5 p i={p with s:=(Y.go i l p.s).s,ft:=p.ft.set i (Y.go i l p.s).k8,evs:=p.evs ++ [(i,Y.stp i l)],W2:=p.W2++tell i (p.evs.length+1) (Y.go i l p.s).W2,outs:=p.outs ++ [Y.go i l p.s],who:=p.who ++ [some i],used:=p.used+1}:=by
  unfold Sys.P5;rw[hl]
 have hs:Y.sAt (Y.pn sc sn) p.outs.length=p.s:=Sys.Kq0 hok Rb0;have ho:Y.u4 (Y.pn sc sn) p.outs.length=Y.go i l p.s:=Sys.Ga0 (p':=Y.pn sc (n+1)) (by rw[vo0,htn]) hle;obtain⟨h1,S2,hsp,heb,me,cs,wn,mn,Fn,Rdo,m6,hme,hrf,hdf,hpv,S7,hos,et0,n2,xp0,hdo,hgo,ka0⟩:=hW;have hgp:=(hF.ck i c hc hnl).bo0;have G8:(Γ.gi i==0)=false:=by simp;omega
 refine⟨Γ.gi i,.bool false,me,by omega,m6,hF.dn,hF.is0,⟨hF.chy,fun j s2 hj hs2=>?_⟩,fun w' a nn me0 hg hk=>?_⟩
 ·by_cases hj0:j=0
  ·subst hj0;rw[hF.lh0 rfl]at hs2;cases hs2
  ·obtain⟨k,d,h2,h3,_,h4,_⟩:=hF.R3 j s2 hj0 hs2;rw[h4];exact hF.ry k d h2 h3
 have J7:=(List.getElem?_eq_some_iff.1 hc).1;obtain⟨F,hinv,hFf⟩:=hM.inv;have I8:=hO.sys.vis _ _ _ _ hinv;have T2:∀b,b<w.heap.size->¬R.fp b->w'.heap[b]? =w.heap[b]?:=hg.md.block;have ja0:=(hF.Xs0 hO.sys.toLeOk hnl hc (s0:=⟨R.yb,.i 0,me0⟩)).P5 hO.sys.toLeOk (w':=w') (R':={R with ea:=a,ec:=nn,evs:=R.evs ++ [(i,c.sp)],used:=R.used+1,cl:=R.cl.set i {c with W1:=c.W1+1,wt:=false}}) hg.m rfl rfl rfl hg.fp (by simp) (fun j d hd=>by
  have J5:(R.cl.set i {c with W1:=c.W1+1,wt:=false})[j]? =some d:=hd;rw[List.getElem?_set]at J5;by_cases hj:i=j
  ·subst hj;rw[if_pos rfl,if_pos J7]at J5;obtain rfl:=Option.some.inj J5;exact⟨c,hc,rfl,rfl,fun z=>absurd rfl z⟩
  ·rw[if_neg hj]at J5;exact⟨d,J5,rfl,rfl,fun _=>⟨rfl,rfl⟩⟩) hg.md.size (fun b hb hf _=>.inl (T2 b hb hf)) (fun z=>by cases z)
 refine g9 _ _ fun nv=>?_;haveI:DecidablePred fun b=>Γ.pv i b\/F b:=fun _=>Classical.propDecidable _;refine ju0 (fun b=>Γ.pv i b\/F b) (be0 (τ:=tpT w' p.outs.length 0 0 Γ.gm) (d:=w'.drawn) ?_);have Cl0:=qu0 (i:=i) (R1:={R with ea:=a,ec:=nn,evs:=R.evs ++ [(i,c.sp)],used:=R.used+1,cl:=R.cl.set i {c with W1:=c.W1+1,wt:=false}}) hF hg.fp (by simp) hFf (fun b hb=>(I8 b hb).1);have hpk:Y.W1 (Y.pn sc sn) i p.outs.length=c.W1+1:=by
  unfold Sys.W1;obtain⟨l',n5⟩:=hle.who;have hw:=hok.who;rw[<- n5,vo0,htn];rw[List.take_append_of_le_length (by simp[hw]),List.take_of_length_le (by simp[hw])];rw[hT.W1 i c hc];simp
 have g4:=n8.enter (q:=Y.pn sc sn) (i:=i) (t:=p.outs.length) (at_:=p.evs.length+1) (cb:=c.cb) (n0:=p.W2) (R0:={R with ea:=a,ec:=nn,evs:=R.evs ++ [(i,c.sp)],used:=R.used+1,cl:=R.cl.set i {c with W1:=c.W1+1,wt:=false}}) (τ:=tpT w' p.outs.length 0 0 Γ.gm) (d:=w'.drawn) hO.sys.toLeOk (fun b=>Γ.pv i b\/F b) ja0 Cl0 nv rfl (tpm _ _ _ _ _ _ _) (by show(R.evs ++ [(i,c.sp)]).length=_;rw[hT.evs];simp)
  ⟨{c with W1:=c.W1+1,wt:=false},by show(R.cl.set i _)[i]? =_;simp[J7],rfl,.inl ⟨rfl,S2,by
   show R.W2=_;rw[tp1,hT.W2];simp[tell],hpk.symm⟩⟩ ⟨R.na,R.nc,R.W2,rfl⟩ hnl ((T2 _ heb.lt (hF.side i J7 hnl).2.2.2).trans heb)
 have lj0:∀b,Γ.pv i b\/F b->b<w.heap.size/\¬R.fp b:=fun b hb=>by
  rcases hb with h|h
  ·exact⟨(hF.pv i b h).1,(hF.pv i b h).2.1⟩
  ·exact⟨(I8 b h).1,(hFf b h).1⟩
 have Ob0:(Y.cfg fb (Y.pn sc sn) w0 i c.cb (Γ.top i)).Goes wn mn Fn l (Yc.j3 (H3 (fun b=>Γ.pv i b\/F b) w') (tpT w' p.outs.length 0 0 Γ.gm) w'.drawn) F:=by
  refine⟨Wt.W6 (u:=Yc.j3 (H3 (fun b=>Γ.pv i b\/F b) w') (tpT w' p.outs.length 0 0 Γ.gm) w'.drawn) (q:=Y.pn sc sn) (X:=X) (R:=R) (c:=c) (l:=l) hO.sys hpv S7 hos et0 n2 xp0 hinv (fun b hb z=>(hFf b hb).2 (.inr (.inr ⟨i,z⟩))) (fun b hb=>?_) ?_ (hg.md.os.trans (hF.os rfl)) (hg.md.output.trans (hF.output rfl)) hs (tpm _ _ _ _ _ _ _),rfl,rfl,?_,?_,⟨show p.outs.length <=300000 by have h1:=(Sys.xn0 (Y:=Y) sc n).2;rw[hp]at h1;have h2:=hO.m1;have h3:=hO.sn1;omega,p,.inr ⟨sc,n,hp.symm⟩,rfl,hs.symm,hl⟩⟩
  ·show(H3 (fun b=>Γ.pv i b\/F b) w').heap[b]? =_;rw[u9 (V:=fun b=>Γ.pv i b\/F b) w' hb,T2 b (lj0 b hb).1 (lj0 b hb).2]
  ·show w.heap.size <=(H3 (fun b=>Γ.pv i b\/F b) w').heap.size;rw[j8];exact hg.md.size
  ·show Y.u4 (Y.pn sc sn) p.outs.length=Y.go i l (Y.sAt (Y.pn sc sn) p.outs.length);rw[hs,ho]
  ·show Y.rdy i l (Y.sAt (Y.pn sc sn) p.outs.length)=true;rw[hs];exact hrl
 refine Kv0 G8 hme (hdo _ F Ob0) (fun cs2 u2 he ht hz=>(g4.evo hO.sys.toLeOk he ht).number hz) fun u2 fr he ht hr hfn hlv=>?_;refine es0 (z0:=.i 0) (me0:=me0) (st:=false) (cb:=c.cb) (Γ:=Γ.put i fun _=>False) (Mn:=Mn) (ft:=fun j=>p.ft[j]?) (t:=p.outs.length) (at_:=p.evs.length+1) (n0:=p.W2) (R0:={R with ea:=a,ec:=nn,evs:=R.evs ++ [(i,c.sp)],used:=R.used+1,cl:=R.cl.set i {c with W1:=c.W1+1,wt:=false}}) hO.sys H8 ?_ (fun Γ' X' R' w2 hA=>?_) (hgo _ F u2 Ob0 hr ht fr hfn hlv) _ _ (g4.evo hO.sys.toLeOk he ht) (fun d hd=>?_)
 ·rw[vo0,htn]at Oa0;have:=hO.W2;rw[ho];simp[tell]at Oa0;omega
 ·rcases hA with⟨_,hM',na,nc,c0,c',hc0,hcp,hR⟩|⟨z,_⟩
  ·have hc0:(R.cl.set i {c with W1:=c.W1+1,wt:=false})[i]? =some c0:=hc0;have Rc0:c0.W1=c.W1+1:=by simp[J7]at hc0;rw[<- hc0]
   rw[ho,Ah0 (by omega)]at hM';refine hk X' R' w2 _ ?_;subst hR;refine⟨by omega,⟨Γ',by rw[vo0,htn];exact hM'⟩,?_,O9,X9⟩;rw[vo0,htn];refine⟨hT.rb,?_,?_,?_,?_,fun j d hd=>?_,fun j hj=>?_⟩
   ·show R.evs ++ [(i,c.sp)]=p.evs ++ [(i,Y.stp i l)];rw[hT.evs,hsp]
   ·show p.W2++tell i (R.evs ++ [(i,c.sp)]).length (Y.u4 (Y.pn sc sn) p.outs.length).W2=p.W2++tell i (p.evs.length+1) (Y.go i l p.s).W2;rw[hT.evs,ho];simp
   ·show R.used+1=p.used+1;rw[hT.used]
   ·show((R.cl.set i {c with W1:=c.W1+1,wt:=false}).set i c').length=(p.ft.set i _).length;simp[hT.len]
   ·have J5:((R.cl.set i {c with W1:=c.W1+1,wt:=false}).set i c')[j]? =some d:=hd;show d.W1=(p.who ++ [some i]).count (some j);rw[List.getElem?_set]at J5;by_cases R2:i=j
    ·subst R2;rw[if_pos rfl,if_pos (by simp[J7])]at J5;obtain rfl:=Option.some.inj J5;rw[hcp,Rc0,hT.W1 i c hc];simp
    ·rw[if_neg R2,List.getElem?_set_ne R2]at J5;rw[hT.W1 j d J5];simp[R2]
   ·show(hh0 R.ends i (Y.u4 (Y.pn sc sn) p.outs.length).k8)[j]? =some (ai0 ((p.ft.set i (Y.go i l p.s).k8)[j]?));have h0:=hr0 (Y:=Y) (f:=(Y.go i l p.s).k8) (g:=fun j=>p.ft[j]?) (i:=i) hT.ends (by rw[hF.mem.dy0,hF.m]) (by show ai0 p.ft[i]? =0;rw[hl];rfl) j hj;rw[ho,h0];exact congrArg (fun f:Nat->Option (Y.L ⊕ Nat)=>some (ai0 (f j))) (Ah0 (by omega) (Y.go i l p.s).k8)
  ·cases z
 ·have J5:(R.cl.set i {c with W1:=c.W1+1,wt:=false})[i]? =some d:=hd;simp[J7]at J5;rw[<- J5];exact S2
set_option maxRecDepth 20000 in
theorem Ky0 (hO:iu0 Y fb caps fv ba sa sn sc) {Post:Value->World->Prop} {X:Gh} {R:Rn} {w:World} {i:Nat} {c:CB} (hJ:JE Y fb sn sc Mn w0 rb0 i X R w) (hc:R.cl[i]? =some c) (hwt:c.wt=true) :
  ∃g z1 me1,g≠0/\X.G1 g=some ⟨c.rc,z1,me1⟩/\X.dn=0/\X.stay 0=[(⟨R.rb,7,none⟩,.chan (some R.yb))]/\(X.I7 R.yb/\∀i s2,i≠g->X.G1 i=some s2->s2.ch≠R.yb) /\
  ∀w' me0,Rg R.fp w.heap.size w w' w0.heap.size {R with W7:=R.W7.set i c.sp}->(∀X' R' u v,JE Y fb sn sc Mn w0 rb0 (i+1) X' R' u/\R'.ca=R.ca/\R'.cc=R.cc->Fin Tryz.prog Post X' 0 (Go.Conc.served me0 v) u)->Fin Tryz.prog Post (X.pass 0 g (some ⟨R.yb,.i 0,me0⟩)) g (Go.Conc.served me1 (.bool false)) w':=by
 obtain⟨_,⟨Γ,hM⟩,hT,O9,X9⟩:=hJ;have hF:=hM.fix;have J7:=(List.getElem?_eq_some_iff.1 hc).1;have hlp:(Y.pn sc sn).ft.length=Y.m:=Sys.N9 sc sn;have him:i<Y.m:=by have:=hT.len;omega
 have hok:=Sys.vg0 (Y:=Y) sc sn;have hs:Y.sAt (Y.pn sc sn) (Y.pn sc sn).outs.length=(Y.pn sc sn).s:=Sys.Kq0 hok (Sys.Le.refl Y _);obtain⟨hnl,l,hl,hW⟩:Y.nil i=false/\∃l,(Y.pn sc sn).ft[i]? =some (.inl l)/\Wt Y fb (Y.pn sc sn) w0 Γ X w i c l:=by
  rcases hF.waits hc with⟨_,h1,l,h2,h3⟩|⟨h,_⟩
  ·exact⟨h1,l,by simpa using h2,h3⟩
  ·rw[hwt]at h;cases h
 generalize hq:Y.pn sc sn=q at *;obtain⟨h1,S2,hsp,heb,me,cs,wn,mn,Fn,Rdo,m6,hme,hrf,hdf,hpv,S7,hos,et0,n2,xp0,hdo,hgo,ka0⟩:=hW;have hgp:=(hF.ck i c hc hnl).bo0;have G8:(Γ.gi i==0)=false:=by simp;omega
 refine⟨Γ.gi i,.bool false,me,by omega,m6,hF.dn,hF.is0,⟨hF.chy,fun j s2 hj hs2=>?_⟩,fun w' me0 hg hk=>?_⟩
 ·by_cases hj0:j=0
  ·subst hj0;rw[hF.lh0 rfl]at hs2;cases hs2
  ·obtain⟨k,d,h2,h3,_,h4,_⟩:=hF.R3 j s2 hj0 hs2;rw[h4];exact hF.ry k d h2 h3
 obtain⟨F,hinv,hFf⟩:=hM.inv;have I8:=hO.sys.vis _ _ _ _ hinv;refine hme.no _ (by have:=@V3 Tryz.prog Post (X.pass 0 (Γ.gi i) (some ⟨R.yb,.i 0,me0⟩)) (Γ.gi i);rw[G8]at this;exact this) w' R.fp w.heap.size w w0.heap.size {R with W7:=R.W7.set i c.sp} i c hg hc rfl fun u2 fr ch hg2 hfn J6 hlv=>?_;have T2:∀b,b<w.heap.size->¬R.fp b->u2.heap[b]? =w.heap[b]?:=hg2.md.block;have ja0:=(hF.Xs0 hO.sys.toLeOk hnl hc (s0:=⟨R.yb,.i 0,me0⟩)).P5 hO.sys.toLeOk (w':=u2) (R':={R with W7:=R.W7.set i c.sp,cl:=R.cl.set i {c with st:=true}}) hg2.m rfl rfl rfl hg2.fp (by simp) (fun j d hd=>by
  have J5:(R.cl.set i {c with st:=true})[j]? =some d:=hd;rw[List.getElem?_set]at J5;by_cases hj:i=j
  ·subst hj;rw[if_pos rfl,if_pos J7]at J5;obtain rfl:=Option.some.inj J5;exact⟨c,hc,rfl,rfl,fun z=>absurd rfl z⟩
  ·rw[if_neg hj]at J5;exact⟨d,J5,rfl,rfl,fun _=>⟨rfl,rfl⟩⟩) hg2.md.size (fun b hb hf _=>.inl (T2 b hb hf)) (fun z=>by cases z)
 refine g9 _ _ fun nv=>?_;haveI:DecidablePred fun b=>Γ.pv i b\/F b:=fun _=>Classical.propDecidable _;refine ju0 (fun b=>Γ.pv i b\/F b) (be0 (τ:=tpT u2 q.outs.length 0 1 Γ.gm) (d:=u2.drawn) ?_);have Cl0:=qu0 (i:=i) (R1:={R with W7:=R.W7.set i c.sp,cl:=R.cl.set i {c with st:=true}}) hF hg2.fp (by simp) hFf (fun b hb=>(I8 b hb).1);have g4:=n8.enter (q:=q) (i:=i) (t:=q.outs.length) (at_:=R.evs.length) (cb:=c.cb) (n0:=q.W2) (R0:={R with W7:=R.W7.set i c.sp,cl:=R.cl.set i {c with st:=true}}) (τ:=tpT u2 q.outs.length 0 1 Γ.gm) (d:=u2.drawn) hO.sys.toLeOk (fun b=>Γ.pv i b\/F b) ja0 Cl0 nv rfl (tpm _ _ _ _ _ _ _) rfl
  ⟨{c with st:=true},by show(R.cl.set i _)[i]? =_;simp[J7],rfl,.inr ⟨rfl,rfl,hT.W2⟩⟩ ⟨R.na,R.nc,R.W2,rfl⟩ hnl ((T2 _ heb.lt (hF.side i J7 hnl).2.2.2).trans heb)
 have lj0:∀b,Γ.pv i b\/F b->b<w.heap.size/\¬R.fp b:=fun b hb=>by
  rcases hb with h|h
  ·exact⟨(hF.pv i b h).1,(hF.pv i b h).2.1⟩
  ·exact⟨(I8 b h).1,(hFf b h).1⟩
 have Rd0:(Y.cfg fb q w0 i c.cb (Γ.top i)).g5 wn mn Fn (Yc.j3 (H3 (fun b=>Γ.pv i b\/F b) u2) (tpT u2 q.outs.length 0 1 Γ.gm) u2.drawn) F:=by
  refine Wt.W6 (u:=Yc.j3 (H3 (fun b=>Γ.pv i b\/F b) u2) (tpT u2 q.outs.length 0 1 Γ.gm) u2.drawn) (q:=q) (X:=X) (R:=R) (c:=c) (l:=l) hO.sys hpv S7 hos et0 n2 xp0 hinv (fun b hb z=>(hFf b hb).2 (.inr (.inr ⟨i,z⟩))) (fun b hb=>?_) ?_ (hg2.md.os.trans (hF.os rfl)) (hg2.md.output.trans (hF.output rfl)) hs (tpm _ _ _ _ _ _ _)
  ·show(H3 (fun b=>Γ.pv i b\/F b) u2).heap[b]? =_;rw[u9 (V:=fun b=>Γ.pv i b\/F b) u2 hb,T2 b (lj0 b hb).1 (lj0 b hb).2]
  ·show w.heap.size <=(H3 (fun b=>Γ.pv i b\/F b) u2).heap.size;rw[j8];exact hg2.md.size
 refine es0 (z0:=.i 0) (me0:=me0) (st:=true) (cb:=c.cb) (Γ:=Γ.put i fun _=>False) (Mn:=Mn) (ft:=fun j=>if j<i then r8 (q.ft[j]?) else q.ft[j]?) (t:=q.outs.length) (at_:=R.evs.length) (n0:=q.W2) (R0:={R with W7:=R.W7.set i c.sp,cl:=R.cl.set i {c with st:=true}}) hO.sys H8 ?_ (fun Γ' X' R' w2 hA=>?_) (ka0 _ F Rd0 rfl fr ch hfn J6 hlv) _ _ g4 (fun d hd=>?_)
 ·have h2:=hO.W2;rw[hq]at h2;have h3:Y.u4 q q.outs.length=Y.o0:=by unfold Sys.u4;rw[List.getElem?_eq_none (Nat.le_refl _)];rfl
  rw[h3];show q.W2.length+0 <=_;omega
 ·rcases hA with⟨z,_⟩|⟨_,hM',na,nc,c0,c',hc0,hcp,hR⟩
  ·cases z
  ·have hc0:(R.cl.set i {c with st:=true})[i]? =some c0:=hc0;have Rc0:c0.W1=c.W1:=by simp[J7]at hc0;rw[<- hc0]
   have Re0:(fun j=>if j=i then some (.inr 0) else if j<i then r8 (q.ft[j]?) else q.ft[j]?)=fun j=>if j<i+1 then r8 (q.ft[j]?) else q.ft[j]?:=by
    funext j;by_cases R2:j=i
    ·subst R2;rw[if_pos rfl,if_pos (by omega),hl];rfl
    ·rw[if_neg R2];by_cases h3:j<i
     ·rw[if_pos h3,if_pos (by omega)]
     ·rw[if_neg h3,if_neg (by omega)]
   have hM2:Main Y fb q w0 Γ' X' R' w2 Mn (fun j=>if j=i then some (.inr 0) else if j<i then r8 (q.ft[j]?) else q.ft[j]?) (Y.sAt q q.outs.length):=hM';rw[Re0,hs]at hM2;refine hk X' R' w2 _ ?_;subst hR;refine⟨⟨by omega,⟨Γ',by rw[hq];exact hM2⟩,?_,fun j hj=>?_,by rw[hq];exact X9⟩,rfl,rfl⟩
   ·rw[hq];refine⟨hT.rb,hT.evs,rfl,hT.used,?_,fun j d hd=>?_,fun j hj=>?_⟩
    ·show((R.cl.set i {c with st:=true}).set i c').length=_;simp[hT.len]
    ·have J5:((R.cl.set i {c with st:=true}).set i c')[j]? =some d:=hd;rw[List.getElem?_set]at J5;by_cases R2:i=j
     ·subst R2;rw[if_pos rfl,if_pos (by simp[J7])]at J5;obtain rfl:=Option.some.inj J5;rw[hcp,Rc0];exact hT.W1 i c hc
     ·rw[if_neg R2,List.getElem?_set_ne R2]at J5;exact hT.W1 j d J5
    ·show(R.ends.set i 0)[j]? =_;have hel:R.ends.length=Y.m:=by rw[hF.mem.dy0,hF.m]
     by_cases R2:i=j
     ·subst R2;rw[hl];simp[hel,him];rfl
     ·rw[List.getElem?_set_ne R2];exact hT.ends j hj
   ·rw[hq];show(R.W7.set i c.sp)[j]? =_;have hwl:R.W7.length=Y.m:=by rw[hF.mem.ji0,hF.m]
    by_cases R2:i=j
    ·subst R2;rw[if_pos (by omega),hl];simp[hwl,him];exact hsp
    ·rw[List.getElem?_set_ne R2,O9 j hj];by_cases h3:j<i
     ·rw[if_pos h3,if_pos (by omega)]
     ·rw[if_neg h3,if_neg (by omega)]
 ·have J5:(R.cl.set i {c with st:=true})[i]? =some d:=hd;simp[J7]at J5;rw[<- J5]
end
end
end Go.Vy.Sc
end
