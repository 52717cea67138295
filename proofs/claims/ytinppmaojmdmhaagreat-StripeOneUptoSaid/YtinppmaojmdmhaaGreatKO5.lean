/- What the claim leans on, part 5. Laws. -/
import Derived.Test.YtinppmaojmdmhaaGreatKO4
import Derived.ChangeKeysEq
set_option linter.unusedVariables false
section
namespace Go.Vy.Sc
open Go Go.Conc Go.Yc Go.RowKit Go.Proofs Go.Proofs.YtinppmaojmdmhaaGreat Tryz
open Go.Vc Go.Wg
structure SOp where
 kind:Int
 rc0:Int
 key:ByteArray
def plc (o:SOp):Nat:=(o.rc0%4).toNat
theorem gp0 (o:SOp):plc o<4:=by unfold plc;omega
structure Ent where
 key:ByteArray
 num:Nat
 held:Bool
 K1:Int
structure Str where
 held:Bool
 E5:Nat
 l:List Nat
 made:Nat
 O0:Nat
 M3:Nat
structure E3 where
 st:Nat->Str
 en:List Ent
 mn:Nat->Nat
def kj0:Str:=⟨false,0,[],0,1,0⟩
def jm0:E3:=⟨fun _=>kj0,[],fun _=>0⟩
def gE (s:E3) (e:Nat):Ent:=s.en.getD e ⟨⟨#[]⟩,0,false,0⟩
def W6 (s:E3) (j:Nat) (x:Str):E3:={s with st:=o3 s.st j x}
def A8 (s:E3) (e:Nat) (x:Ent):E3:={s with en:=s.en.set e x}
inductive Ph where
 |j5|look|more (e:Nat)|run (e:Nat)|ep0|lck|cd0|z6 (e:Nat)|make|unl (e:Nat)
 |less (e:Nat)|ad0 (e:Nat)|ae0 (e:Nat)|K1 (e:Nat)|out (e:Nat)|R6 (e:Nat)
 |n5 (e:Nat)|W2 (e:Nat)
structure Lb where
 k:Nat
 has:Nat->Option Nat
 to:Nat
 j:Nat
 q:ByteArray
 ph:Ph
 nu:Nat
 bs:Str
 bk:List ByteArray
def oW (obj:Int) (k:Int):Int:=IntKind.i64.wrap (obj+k)
def u9 (obj:Int) (b:Lb):Stp:=match b.ph with
 | .j5=>⟨3,obj,b.j⟩
 | .look| .cd0| .ae0 _=>⟨8,oW obj 1,b.j⟩
 | .more _| .z6 _| .less _=>⟨7,oW obj 3,b.nu⟩
 | .run _| .ep0=>⟨4,obj,b.j⟩
 | .lck| .ad0 _=>⟨1,obj,b.j⟩
 | .make| .out _=>⟨9,oW obj 1,b.j⟩
 | .unl _| .R6 _=>⟨2,obj,b.j⟩
 | .K1 _=>⟨5,oW obj 3,b.nu⟩
 | .n5 _=>⟨1,oW obj 2,b.nu⟩
 | .W2 _=>⟨2,oW obj 2,b.nu⟩
def Z5 (b:Lb) (s:E3):Bool:=match b.ph with
 | .j5=>!(s.st b.j).held
 | .lck| .ad0 _=>!(s.st b.j).held&&decide ((s.st b.j).E5=0)
 | .n5 e=>!(gE s e).held
 |_=>true
def am0 (s:E3):Option Nat->ByteArray
 |none=>ByteArray.mk #[]++ByteArray.mk #[47]++mv0 (-1)
 |some e=>(gE s e).key++ByteArray.mk #[47]++mv0 ((gE s e).num:Nat)
def P6 (n:Nat):List SOp->Nat->(Nat->Option Nat)->E3->List Nte->k6 E3 Lb
 | [],_,_,s,nts=>⟨s,nts,.inr 1⟩
 |o::ops,k,has,s,nts=>
  if o.kind=1 then⟨s,nts,.inl ⟨k+1,has,plc o,M9 n o.key,o.key,.j5,0,kj0,[]⟩⟩
  else if o.kind=5 then P6 n ops (k+1) has s (nts ++ [⟨1,am0 s (has (plc o))⟩])
  else match has (plc o)with
   |none=>P6 n ops (k+1) has s nts
   |some e=>
    if o.kind=2 then⟨s,nts,.inl ⟨k+1,has,0,0,(gE s e).key,.n5 e,(gE s e).num,kj0,[]⟩⟩
    else if o.kind=3 then⟨s,nts,.inl ⟨k+1,has,0,0,(gE s e).key,.W2 e,(gE s e).num,kj0,[]⟩⟩
    else if o.kind=4 then⟨s,nts,.inl ⟨k+1,o3 has (plc o) none,0,M9 n (gE s e).key,(gE s e).key,.less e,(gE s e).num,kj0,[]⟩⟩
    else P6 n ops (k+1) has s nts
def H7 (s:E3) (j:Nat):List ByteArray:=(s.st j).l.map fun e=>(gE s e).key
def bo0 (s:E3) (j:Nat) (q:ByteArray):Option Nat:=(s.st j).l.find? fun e=>decide ((gE s e).key=q)
def D8 (s:E3) (e:Nat) (d:Int):E3:=A8 s e {gE s e with K1:=IntKind.i64.wrap ((gE s e).K1+d)}
def an0 (n i:Nat) (b:Lb) (s:E3):E3 :=
 {st:=o3 s.st b.j {s.st b.j with l:=(s.st b.j).l ++ [s.en.length],made:=(s.st b.j).made+1,O0:=wn (s.st b.j).O0 (s.st b.j).l.length,M3:=(s.st b.j).M3+1}
  en:=s.en ++ [⟨b.q,b.j+(s.st b.j).made*n,false,1⟩]
  mn:=o3 s.mn i (s.mn i+1)}
def Ab0 (s:E3) (j e:Nat):E3:=W6 s j {s.st j with l:=(s.st j).l.filter fun x=>decide (x≠e),M3:=(s.st j).M3+1}
def A4 (n:Nat) (ops:List SOp) (i:Nat) (b:Lb) (s:E3):k6 E3 Lb:=match b.ph with
 | .j5=>⟨W6 s b.j {s.st b.j with E5:=(s.st b.j).E5+1},[],.inl {b with ph:=.look}⟩
 | .look=>match bo0 s b.j b.q with
  |some e=>⟨s,[],.inl {b with ph:=.more e,nu:=(gE s e).num}⟩
  |none=>⟨s,[],.inl {b with ph:=.ep0}⟩
 | .more e=>⟨D8 s e 1,[],.inl {b with ph:=.run e}⟩
 | .run e=>P6 n (ops.drop b.k) b.k (o3 b.has b.to (some e)) (W6 s b.j {s.st b.j with E5:=(s.st b.j).E5-1}) []
 | .ep0=>⟨W6 s b.j {s.st b.j with E5:=(s.st b.j).E5-1},[],.inl {b with ph:=.lck}⟩
 | .lck=>⟨W6 s b.j {s.st b.j with held:=true},[],.inl {b with ph:=.cd0}⟩
 | .cd0=>match bo0 s b.j b.q with
  |some e=>⟨s,[],.inl {b with ph:=.z6 e,nu:=(gE s e).num}⟩
  |none=>⟨s,[],.inl {b with ph:=.make,bs:=s.st b.j,bk:=H7 s b.j}⟩
 | .z6 e=>⟨D8 s e 1,[],.inl {b with ph:=.unl e}⟩
 | .make=>⟨an0 n i b s,[],.inl {b with ph:=.unl s.en.length}⟩
 | .unl e=>P6 n (ops.drop b.k) b.k (o3 b.has b.to (some e)) (W6 s b.j {s.st b.j with held:=false}) []
 | .less e=>if(gE (D8 s e (-1)) e).K1=0 then⟨D8 s e (-1),[],.inl {b with ph:=.ad0 e}⟩ else P6 n (ops.drop b.k) b.k b.has (D8 s e (-1)) []
 | .ad0 e=>⟨W6 s b.j {s.st b.j with held:=true},[],.inl {b with ph:=.ae0 e}⟩
 | .ae0 e=>if e∈(s.st b.j).l then⟨s,[],.inl {b with ph:=.K1 e,bs:=s.st b.j,bk:=H7 s b.j}⟩ else⟨s,[],.inl {b with ph:=.R6 e}⟩
 | .K1 e=>if(gE s e).K1=0 then⟨s,[],.inl {b with ph:=.out e}⟩ else⟨s,[],.inl {b with ph:=.R6 e}⟩
 | .out e=>⟨Ab0 s b.j e,[],.inl {b with ph:=.R6 e}⟩
 | .R6 _=>P6 n (ops.drop b.k) b.k b.has (W6 s b.j {s.st b.j with held:=false}) []
 | .n5 e=>P6 n (ops.drop b.k) b.k b.has (A8 s e {gE s e with held:=true}) []
 | .W2 e=>P6 n (ops.drop b.k) b.k b.has (A8 s e {gE s e with held:=false}) []
def mw0:Ph->Bool
 | .look| .more _| .run _| .ep0=>true
 |_=>false
def eq0:Ph->Bool
 | .cd0| .z6 _| .make| .unl _| .ae0 _| .K1 _| .out _| .R6 _=>true
 |_=>false
def Gi0 (j:Nat):Lb ⊕ Nat->Bool
 | .inl b=>decide (b.j=j)&&mw0 b.ph
 | .inr _=>false
def kk0 (j:Nat):Lb ⊕ Nat->Bool
 | .inl b=>decide (b.j=j)&&eq0 b.ph
 | .inr _=>false
def phE:Ph->Option Nat
 | .more e| .run e| .z6 e| .unl e| .less e| .ad0 e| .ae0 e| .K1 e| .out e| .R6 e| .n5 e| .W2 e=>some e
 |_=>none
def nuE:Ph->Option Nat
 | .more e| .z6 e| .less e| .ad0 e| .ae0 e| .K1 e| .n5 e| .W2 e=>some e
 |_=>none
def Dc0:Ph->Option Nat
 | .less e| .ad0 e| .ae0 e| .K1 e| .out e| .R6 e=>some e
 |_=>none
def inE:Ph->Option Nat
 | .K1 e| .out e=>some e
 |_=>none
def ar1:Ph->Bool
 | .j5| .look| .ep0| .lck| .cd0| .make=>true
 |_=>false
def gq0:Ph->Bool
 | .j5| .look| .more _| .run _| .ep0| .lck| .cd0| .z6 _| .make| .unl _=>true
 |_=>false
def Iu0:Ph->Bool
 | .make| .K1 _| .out _=>true
 |_=>false
structure LOk (n:Nat) (ops:List SOp) (i:Nat) (s:E3) (b:Lb):Prop where
 k:1 <=b.k/\b.k <=ops.length
 has:∀x e,b.has x=some e->e<s.en.length
 to:b.to<4
 j:b.j<n
 e:∀e,phE b.ph=some e->e<s.en.length
 nu:∀e,nuE b.ph=some e->b.nu=(gE s e).num
 mn:s.mn i <=b.k
 mn1:ar1 b.ph=true->s.mn i<b.k
 st:gq0 b.ph=true->b.j=M9 n b.q
 q:∀e,Dc0 b.ph=some e->b.q=(gE s e).key/\b.j=M9 n b.q
 bs:Iu0 b.ph=true->s.st b.j=b.bs/\H7 s b.j=b.bk
 un:b.ph= .make->∀e∈(s.st b.j).l,(gE s e).key≠b.q
 inn:∀e,inE b.ph=some e->e∈(s.st b.j).l
theorem Iv0 {p:Ph} {e:Nat} (h:nuE p=some e):phE p=some e:=by cases p <;> first|exact h|cases h
theorem yj0 {p:Ph} {e:Nat} (h:Dc0 p=some e):phE p=some e:=by cases p <;> first|exact h|cases h
theorem fg1 {p:Ph} {e:Nat} (h:inE p=some e):eq0 p=true:=by cases p <;> first|rfl|cases h
theorem Sb0 {p:Ph} (h:Iu0 p=true):eq0 p=true:=by cases p <;> first|rfl|cases h
structure SOk (n m:Nat) (len:Nat->Nat) (s:E3):Prop where
 l:∀j e,e∈(s.st j).l->e<s.en.length
 nd:∀j,((s.st j).l.map fun e=>(gE s e).key).Nodup
 sl:∀j,1 <=(s.st j).O0/\(s.st j).O0 <=s.en.length+1
 ll:∀j,(s.st j).l.length <=s.en.length
 made:∀j,(s.st j).made <=s.en.length
 en:s.en.length=Y8 s.mn m
 mn:∀i,s.mn i <=len i
 nu:∀e,e<s.en.length->(gE s e).num<n*s.en.length
theorem ou0 {α:Type} (p:α->Bool) {l:List α} {i:Nat} {a b:α} (h:l[i]? =some a):(l.set i b).countP p+(if p a=true then 1 else 0)=l.countP p+(if p b=true then 1 else 0):=by
 obtain⟨h1,h2⟩:=List.getElem?_eq_some_iff.1 h;rw[List.countP_set h1,h2];by_cases ha:p a=true
 ·have h3:0<l.countP p:=List.countP_pos_iff.2 ⟨a,List.mem_of_getElem? h,ha⟩;rw[if_pos ha];omega
 ·rw[if_neg ha];omega
theorem r8 (n:Nat):∀(rest:List SOp) (k:Nat) (has:Nat->Option Nat) (s:E3) (nts:List Nte),(P6 n rest k has s nts).s=s
 | [],_,_,_,_=>rfl
 |o::rest,k,has,s,nts=>by
  unfold P6;split
  ·rfl
  split
  ·exact r8 n rest _ _ _ _
  split
  ·exact r8 n rest _ _ _ _
  split
  ·rfl
  split
  ·rfl
  split
  ·rfl
  ·exact r8 n rest _ _ _ _
theorem Ky0 {α:Type} {l rest:List α} {k:Nat} {o:α} (h:l.drop k=o::rest):k<l.length/\l.drop (k+1)=rest:=by
 have h1:k<l.length:=by
  rcases Nat.lt_or_ge k l.length with z|z
  ·exact z
  ·rw[List.drop_eq_nil_of_le z]at h;cases h
 refine⟨h1,?_⟩;rw[List.drop_eq_getElem_cons h1]at h;exact(List.cons.inj h).2
theorem it0 {n i:Nat} {ops:List SOp} {s:E3} (hn:0<n):∀(rest:List SOp) (k:Nat) (has:Nat->Option Nat) (nts:List Nte),ops.drop k=rest->(∀x e,has x=some e->e<s.en.length)->s.mn i <=k ->
  (P6 n rest k has s nts).N1= .inr 1\/∃b,(P6 n rest k has s nts).N1= .inl b/\LOk n ops i s b/\mw0 b.ph=false/\eq0 b.ph=false
 | [],_,_,_,_,_,_=>.inl rfl
 |o::rest,k,has,nts,hd,hh,hm=>by
  obtain⟨hk,L6⟩:=Ky0 hd;unfold P6;split
  ·exact .inr ⟨_,rfl,⟨⟨Nat.succ_pos _,hk⟩,hh,gp0 o,Iq0 hn _,(fun e h=>by cases h),(fun e h=>by cases h),by show _ <=k+1;omega,fun _=>by show _<k+1;omega,fun _=>rfl,(fun e h=>by cases h),(fun h=>by cases h),(fun h=>by cases h),(fun e h=>by cases h)⟩,rfl,rfl⟩
  split
  ·exact it0 hn rest _ _ _ L6 hh (by omega)
  split
  ·exact it0 hn rest _ _ _ L6 hh (by omega)
  rename_i e he;have hee:=hh _ e he;split
  ·exact .inr ⟨_,rfl,⟨⟨Nat.succ_pos _,hk⟩,hh,by show 0<4;omega,hn,(fun e' h=>by cases h;exact hee),(fun e' h=>by cases h;rfl),by show _ <=k+1;omega,(fun h=>by cases h),(fun h=>by cases h),(fun e h=>by cases h),(fun h=>by cases h),(fun h=>by cases h),(fun e h=>by cases h)⟩,rfl,rfl⟩
  split
  ·exact .inr ⟨_,rfl,⟨⟨Nat.succ_pos _,hk⟩,hh,by show 0<4;omega,hn,(fun e' h=>by cases h;exact hee),(fun e' h=>by cases h;rfl),by show _ <=k+1;omega,(fun h=>by cases h),(fun h=>by cases h),(fun e h=>by cases h),(fun h=>by cases h),(fun h=>by cases h),(fun e h=>by cases h)⟩,rfl,rfl⟩
  split
  ·refine .inr ⟨_,rfl,⟨⟨Nat.succ_pos _,hk⟩,fun x e' h=>?_,by show 0<4;omega,Iq0 hn _,(fun e' h=>by cases h;exact hee),(fun e' h=>by cases h;rfl),by show _ <=k+1;omega,(fun h=>by cases h),(fun h=>by cases h),(fun e' h=>by cases h;exact⟨rfl,rfl⟩),(fun h=>by cases h),(fun h=>by cases h),(fun e h=>by cases h)⟩,rfl,rfl⟩;have h:o3 has (plc o) none x=some e':=h;by_cases hx:x=plc o
   ·rw[hx,Y0]at h;cases h
   ·rw[Z0 hx]at h;exact hh x e' h
  ·exact it0 hn rest _ _ _ L6 hh (by omega)
def sT (n i:Nat) (b:Lb) (s:E3):E3:=match b.ph with
 | .j5=>W6 s b.j {s.st b.j with E5:=(s.st b.j).E5+1}
 | .more e| .z6 e=>D8 s e 1
 | .run _| .ep0=>W6 s b.j {s.st b.j with E5:=(s.st b.j).E5-1}
 | .lck| .ad0 _=>W6 s b.j {s.st b.j with held:=true}
 | .make=>an0 n i b s
 | .unl _| .R6 _=>W6 s b.j {s.st b.j with held:=false}
 | .less e=>D8 s e (-1)
 | .out e=>Ab0 s b.j e
 | .n5 e=>A8 s e {gE s e with held:=true}
 | .W2 e=>A8 s e {gE s e with held:=false}
 |_=>s
theorem rd0 (n i:Nat) (ops:List SOp) (b:Lb) (s:E3):(A4 n ops i b s).s=sT n i b s:=by
 unfold A4 sT;cases b.ph with
 |look=>show(match bo0 s b.j b.q with|some e=>(_:k6 E3 Lb)|none=>_).s=s;split <;> rfl
 |cd0=>show(match bo0 s b.j b.q with|some e=>(_:k6 E3 Lb)|none=>_).s=s;split <;> rfl
 |run e=>exact r8 ..
 |unl e=>exact r8 ..
 |less e=>show(if _ then(_:k6 E3 Lb) else _).s=_;split;rfl;exact r8 ..
 |ae0 e=>show(if _ then(_:k6 E3 Lb) else _).s=_;split <;> rfl
 |K1 e=>show(if _ then(_:k6 E3 Lb) else _).s=_;split <;> rfl
 |R6 e=>exact r8 ..
 |n5 e=>exact r8 ..
 |W2 e=>exact r8 ..
 |_=>rfl
theorem er0 {s:E3} {e:Nat} {x:Ent} (h:e<s.en.length) (e':Nat):gE (A8 s e x) e'=if e'=e then x else gE s e':=by
 unfold gE A8;simp only[List.getD_eq_getElem?_getD,List.getElem?_set];by_cases he:e'=e
 ·subst he;simp[h]
 ·rw[if_neg (fun z=>he z.symm),if_neg he]
theorem Ac0 {n i:Nat} {b:Lb} {s:E3} {e:Nat} (h:e<s.en.length):gE (an0 n i b s) e=gE s e:=by
 unfold gE an0;simp only[List.getD_eq_getElem?_getD];rw[List.getElem?_append_left h]
theorem mx0 (n i:Nat) (b:Lb) (s:E3):gE (an0 n i b s) s.en.length=⟨b.q,b.j+(s.st b.j).made*n,false,1⟩:=by
 unfold gE an0;simp only[List.getD_eq_getElem?_getD];rw[List.getElem?_append_right (Nat.le_refl _)];simp
structure Grs (s s':E3):Prop where
 len:s.en.length <=s'.en.length
 same:∀e,e<s.en.length->(gE s' e).key=(gE s e).key/\(gE s' e).num=(gE s e).num
theorem da0 {s:E3} {e:Nat} {x:Ent} (h:e<s.en.length) (h1:x.key=(gE s e).key) (h2:x.num=(gE s e).num):Grs s (A8 s e x) :=
 ⟨by show _ <=(s.en.set e x).length;rw[List.length_set];exact Nat.le_refl _,fun e' _=>by
  rw[er0 h];by_cases he:e'=e
  ·subst he;rw[if_pos rfl];exact⟨h1,h2⟩
  ·rw[if_neg he];exact⟨rfl,rfl⟩⟩
theorem my0 {n i:Nat} {ops:List SOp} {b:Lb} {s:E3} (h:LOk n ops i s b):Grs s (sT n i b s):=by
 have he:=h.e;unfold sT;cases hp:b.ph with
 |more e=>exact da0 (he e (by rw[hp];rfl)) rfl rfl
 |z6 e=>exact da0 (he e (by rw[hp];rfl)) rfl rfl
 |less e=>exact da0 (he e (by rw[hp];rfl)) rfl rfl
 |n5 e=>exact da0 (he e (by rw[hp];rfl)) rfl rfl
 |W2 e=>exact da0 (he e (by rw[hp];rfl)) rfl rfl
 |make=>exact⟨by show _ <=(s.en ++ [_]).length;rw[List.length_append];omega,fun e h=>by rw[Ac0 h];exact⟨rfl,rfl⟩⟩
 |_=>exact⟨Nat.le_refl _,fun _ _=>⟨rfl,rfl⟩⟩
theorem Dd0 {n i:Nat} {b:Lb} {s:E3} {j:Nat} (h:j≠b.j):(sT n i b s).st j=s.st j:=by
 unfold sT;cases b.ph <;> first|rfl|exact Z0 h
theorem as1 {n i i':Nat} {b:Lb} {s:E3} (h:i'≠i):(sT n i b s).mn i'=s.mn i':=by
 unfold sT;cases b.ph <;> first|rfl|exact Z0 h
theorem Xd0 {n i i':Nat} {b:Lb} {s:E3} (h:b.ph≠.make):(sT n i b s).mn i'=s.mn i':=by
 unfold sT;cases hp:b.ph <;> first|rfl|exact absurd hp h
theorem LOk.other {n i':Nat} {ops:List SOp} {b':Lb} {s s':E3} (h:LOk n ops i' s b') (hg:Grs s s') (hm:s'.mn i'=s.mn i') (hs:eq0 b'.ph=true->s'.st b'.j=s.st b'.j) (hl:∀e∈(s.st b'.j).l,e<s.en.length):LOk n ops i' s' b':=by
 have J1:∀e,phE b'.ph=some e->e<s.en.length:=h.e;refine⟨h.k,fun x e hx=>Nat.lt_of_lt_of_le (h.has x e hx) hg.len,h.to,h.j,fun e he=>Nat.lt_of_lt_of_le (h.e e he) hg.len,fun e he=>?_,by rw[hm];exact h.mn,fun hp=>by rw[hm];exact h.mn1 hp,h.st,fun e he=>?_,fun hb=>?_,fun hp e he=>?_,fun e hp=>?_⟩
 ·rw[(hg.same e (J1 e (Iv0 he))).2];exact h.nu e he
 ·rw[(hg.same e (J1 e (yj0 he))).1];exact h.q e he
 ·have h1:=hs (Sb0 hb);have h2:=h.bs hb;refine⟨h1.trans h2.1,?_⟩;rw[<- h2.2];unfold H7;rw[h1];exact List.map_congr_left fun e he=>(hg.same e (hl e he)).1
 ·rw[hs (by rw[hp];rfl)]at he;rw[(hg.same e (hl e he)).1];exact h.un hp e he
 ·rw[hs (fg1 hp)];exact h.inn e hp
theorem Xe0 {f:Nat->Nat} {i m:Nat} (h:i<m):Y8 (o3 f i (f i+1)) m=Y8 f m+1:=by
 induction m with
 |zero=>exact absurd h (Nat.not_lt_zero _)
 |succ m ih=>
  rw[H6,H6];by_cases he:i=m
  ·subst he;rw[Y0,Gg0 (g:=f) fun j hj=>Z0 (by omega)];omega
  ·rw[Z0 (Ne.symm he),ih (by omega)];omega
theorem fh1 {n k N:Nat} (h1:1 <=n) (h2:n <=N+1) (hk:k <=N):1 <=wn n k/\wn n k <=N+2:=by
 unfold wn;split <;> omega
theorem mz0 {s s':E3} {l:List Nat} (hg:Grs s s') (hl:∀e∈l,e<s.en.length):(l.map fun e=>(gE s' e).key)=l.map fun e=>(gE s e).key :=
 List.map_congr_left fun e he=>(hg.same e (hl e he)).1
section
variable {n m i:Nat}{len:Nat->Nat}{s s':E3}{b:Lb}{ops:List SOp}
theorem SOk.same (h:SOk n m len s) (hg:Grs s s') (he:s'.en.length=s.en.length) (hm:s'.mn=s.mn) (hs:∀j,(s'.st j).l=(s.st j).l/\(s'.st j).O0=(s.st j).O0/\(s'.st j).made=(s.st j).made):SOk n m len s' :=
 ⟨fun j e h'=>by rw[(hs j).1]at h';rw[he];exact h.l j e h',fun j=>by rw[(hs j).1,mz0 hg (h.l j)];exact h.nd j,fun j=>by rw[(hs j).2.1,he];exact h.sl j,fun j=>by rw[(hs j).1,he];exact h.ll j,fun j=>by rw[(hs j).2.2,he];exact h.made j,by rw[he,hm];exact h.en,fun i=>by rw[hm];exact h.mn i,fun e hl=>by rw[he]at hl⊢;rw[(hg.same e hl).2];exact h.nu e hl⟩
theorem fi1 {x:Str} {j:Nat} (hx:x.l=(s.st j).l/\x.O0=(s.st j).O0/\x.made=(s.st j).made):∀j',(o3 s.st j x j').l=(s.st j').l/\(o3 s.st j x j').O0=(s.st j').O0/\(o3 s.st j x j').made=(s.st j').made:=fun j'=>by
 by_cases e:j'=j
 ·subst e;rw[Y0];exact hx
 ·rw[Z0 e];exact⟨rfl,rfl,rfl⟩
theorem SOk.A8 {e:Nat} {x:Ent} (h:SOk n m len s) (hg:Grs s (A8 s e x)):SOk n m len (A8 s e x) :=
 h.same hg (List.length_set ..) rfl fun _=>⟨rfl,rfl,rfl⟩
theorem SOk.sT (h:SOk n m len s) (hb:LOk n ops i s b) (hi:i<m) (hlen:ops.length <=len i):SOk n m len (sT n i b s):=by
 have hg:=my0 hb;revert hg;unfold Sc.sT;cases hp:b.ph with
 |more e=>exact fun hg=>h.A8 hg
 |z6 e=>exact fun hg=>h.A8 hg
 |less e=>exact fun hg=>h.A8 hg
 |n5 e=>exact fun hg=>h.A8 hg
 |W2 e=>exact fun hg=>h.A8 hg
 |make=>
  intro hg;have hl:(an0 n i b s).en.length=s.en.length+1:=by show(s.en ++ [_]).length=_;rw[List.length_append];rfl
  have hmn:=hb.mn1 (by rw[hp];rfl);have hk:=hb.k.2;refine⟨fun j e he=>?_,fun j=>?_,fun j=>?_,fun j=>?_,fun j=>?_,?_,fun i'=>?_,fun e he=>?_⟩
  ·rw[hl];by_cases hj:j=b.j
   ·subst hj;have he:e∈(o3 s.st b.j _ b.j).l:=he;rw[Y0]at he;rcases List.mem_append.1 he with z|z
    ·have:=h.l _ e z;omega
    ·have:=List.mem_singleton.1 z;omega
   ·have he:e∈(o3 s.st b.j _ j).l:=he;rw[Z0 hj]at he;have:=h.l _ e he;omega
  ·by_cases hj:j=b.j
   ·subst hj;show((o3 s.st b.j _ b.j).l.map fun e=>(gE (an0 n i b s) e).key).Nodup;rw[Y0];show(((s.st b.j).l ++ [s.en.length]).map fun e=>(gE (an0 n i b s) e).key).Nodup;rw[List.map_append,mz0 hg (h.l b.j)];refine List.nodup_append.2 ⟨h.nd b.j,by simp,fun a ha c hc=>?_⟩;have hc:c=b.q:=by
     rw[List.mem_singleton.1 hc];show(gE (an0 n i b s) s.en.length).key=b.q;rw[mx0]
    rw[hc];obtain⟨e,he,rfl⟩:=List.mem_map.1 ha;exact hb.un hp e he
   ·show((o3 s.st b.j _ j).l.map fun e=>(gE (an0 n i b s) e).key).Nodup;rw[Z0 hj,mz0 hg (h.l j)];exact h.nd j
  ·rw[hl];show 1 <=(o3 s.st b.j _ j).O0/\(o3 s.st b.j _ j).O0 <=_;by_cases hj:j=b.j
   ·subst hj;rw[Y0];have:=fh1 (h.sl b.j).1 (h.sl b.j).2 (h.ll b.j);exact⟨this.1,by have:=this.2;show wn _ _ <=_;omega⟩
   ·rw[Z0 hj];have:=h.sl j;omega
  ·rw[hl];show(o3 s.st b.j _ j).l.length <=_;by_cases hj:j=b.j
   ·subst hj;rw[Y0];have:=h.ll b.j;show((s.st b.j).l ++ [_]).length <=_;rw[List.length_append,List.length_singleton];omega
   ·rw[Z0 hj];have:=h.ll j;omega
  ·rw[hl];show(o3 s.st b.j _ j).made <=_;by_cases hj:j=b.j
   ·subst hj;rw[Y0];have:=h.made b.j;show _+1 <=_;omega
   ·rw[Z0 hj];have:=h.made j;omega
  ·rw[hl];show _=Y8 (o3 s.mn i (s.mn i+1)) m;rw[Xe0 hi,<- h.en]
  ·show o3 s.mn i (s.mn i+1) i' <=len i';by_cases hi':i'=i
   ·subst hi';rw[Y0];omega
   ·rw[Z0 hi'];exact h.mn i'
  ·rw[hl]at he⊢;rcases Nat.lt_or_ge e s.en.length with z|z
   ·rw[Ac0 z];exact Nat.lt_of_lt_of_le (h.nu e z) (Nat.mul_le_mul_left _ (Nat.le_succ _))
   ·obtain rfl:e=s.en.length:=by omega
    rw[mx0];show b.j+(s.st b.j).made*n<_;have h1:=hb.j;have h2:(s.st b.j).made*n <=n*s.en.length:=by rw[Nat.mul_comm];exact Nat.mul_le_mul_left _ (h.made b.j)
    rw[Nat.mul_succ];omega
 |out e=>
  intro hg;have Kz0:∀j,((Ab0 s b.j e).st j).l.Sublist (s.st j).l:=fun j=>by
   show(o3 s.st b.j _ j).l.Sublist _;by_cases hj:j=b.j
   ·subst hj;rw[Y0];exact List.filter_sublist
   ·rw[Z0 hj];exact List.Sublist.refl _
  have rz0:∀j,((Ab0 s b.j e).st j).O0=(s.st j).O0/\((Ab0 s b.j e).st j).made=(s.st j).made:=fun j=>by
   show(o3 s.st b.j _ j).O0=_/\(o3 s.st b.j _ j).made=_;by_cases hj:j=b.j
   ·subst hj;rw[Y0];exact⟨rfl,rfl⟩
   ·rw[Z0 hj];exact⟨rfl,rfl⟩
  refine⟨fun j e' he=>h.l j e' ((Kz0 j).subset he),fun j=>?_,fun j=>by rw[(rz0 j).1];exact h.sl j,fun j=>Nat.le_trans (Kz0 j).length_le (h.ll j),fun j=>by rw[(rz0 j).2];exact h.made j,h.en,h.mn,h.nu⟩;show(((Ab0 s b.j e).st j).l.map fun e=>(gE s e).key).Nodup;exact List.Nodup.sublist ((Kz0 j).map _) (h.nd j)
 |look=>exact fun _=>h
 |cd0=>exact fun _=>h
 |ae0 e=>exact fun _=>h
 |K1 e=>exact fun _=>h
 |_=>exact fun hg=>h.same hg rfl rfl (fi1 ⟨rfl,rfl,rfl⟩)
theorem ck0 {s:E3} {j e:Nat} {q:ByteArray} (h:bo0 s j q=some e):e∈(s.st j).l/\(gE s e).key=q:=by
 unfold bo0 at h;exact⟨List.mem_of_find?_eq_some h,by simpa using List.find?_some h⟩
theorem La0 {s:E3} {j:Nat} {q:ByteArray} (h:bo0 s j q=none):∀e∈(s.st j).l,(gE s e).key≠q:=by
 unfold bo0 at h;intro e he;simpa using List.find?_eq_none.1 h e he
def rdN:Ph->Bool
 | .j5| .look| .more _=>true
 |_=>false
def wrN:Ph->Bool
 | .lck| .cd0| .z6 _| .make| .ad0 _| .ae0 _| .K1 _| .out _=>true
 |_=>false
structure Nxt (n i:Nat) (ops:List SOp) (b:Lb) (s':E3) (f:Lb ⊕ Nat):Prop where
 ok:∀b',f= .inl b'->LOk n ops i s' b'
 rd:∀j,Gi0 j f=(decide (b.j=j)&&rdN b.ph)
 wr:∀j,kk0 j f=(decide (b.j=j)&&wrN b.ph)
theorem Nxt.fin {has:Nat->Option Nat} (hn:0<n) (hh:∀x e,has x=some e->e<s'.en.length) (hm:s'.mn i <=b.k) (h1:rdN b.ph=false) (h2:wrN b.ph=false):Nxt n i ops b s' (P6 n (ops.drop b.k) b.k has s' []).N1:=by
 rcases it0 (i:=i) (ops:=ops) (s:=s') hn _ b.k has [] rfl hh hm with h|⟨b',h,h3,h4,h5⟩
 ·rw[h];exact⟨fun b' z=>(by cases z),fun j=>(by rw[h1,Bool.and_false];rfl),fun j=>(by rw[h2,Bool.and_false];rfl)⟩
 ·rw[h];exact⟨fun b' z=>(by cases z;exact h3),fun j=>(by rw[h1,Bool.and_false];show(_&&mw0 b'.ph)=_;rw[h4,Bool.and_false]),fun j=>(by rw[h2,Bool.and_false];show(_&&eq0 b'.ph)=_;rw[h5,Bool.and_false])⟩
theorem LOk.on {p':Ph} {nu':Nat} {bs':Str} {bk':List ByteArray} (h:LOk n ops i s b) (hg:Grs s s') (he:∀e,phE p'=some e->e<s'.en.length) (hnu:∀e,nuE p'=some e->nu'=(gE s' e).num) (hm:s'.mn i <=b.k) (hm1:ar1 p'=true->s'.mn i<b.k) (S2:gq0 p'=true->b.j=M9 n b.q) (hq:∀e,Dc0 p'=some e->b.q=(gE s' e).key/\b.j=M9 n b.q) (hbs:Iu0 p'=true->s'.st b.j=bs'/\H7 s' b.j=bk') (hun:p'= .make->∀e∈(s'.st b.j).l,(gE s' e).key≠b.q) (hin:∀e,inE p'=some e->e∈(s'.st b.j).l) (h1:mw0 p'=rdN b.ph) (h2:eq0 p'=wrN b.ph):Nxt n i ops b s' (.inl {b with ph:=p',nu:=nu',bs:=bs',bk:=bk'}) :=
 ⟨fun b' z=>by cases z;exact⟨h.k,fun x e hx=>Nat.lt_of_lt_of_le (h.has x e hx) hg.len,h.to,h.j,he,hnu,hm,hm1,S2,hq,hbs,hun,hin⟩,fun j=>by rw[<- h1];rfl,fun j=>by rw[<- h2];rfl⟩
theorem De0 (hn:0<n) (h:LOk n ops i s b) (hS:SOk n m len s):Nxt n i ops b (Sc.sT n i b s) (A4 n ops i b s).N1:=by
 obtain⟨k,has,to,j,q,ph,nu,bs,bk⟩:=b;have hg:=my0 h;have hmn:ph≠.make->(Sc.sT n i ⟨k,has,to,j,q,ph,nu,bs,bk⟩ s).mn i=s.mn i:=fun z=>Xd0 z;have hE:=fun e he=>Nat.lt_of_lt_of_le (h.e e he) hg.len;have hQ:∀e,Dc0 ph=some e->q=(gE (Sc.sT n i ⟨k,has,to,j,q,ph,nu,bs,bk⟩ s) e).key/\j=M9 n q:=fun e he=>by rw[(hg.same e (h.e e (yj0 he))).1];exact h.q e he
 have hN:∀e,nuE ph=some e->nu=(gE (Sc.sT n i ⟨k,has,to,j,q,ph,nu,bs,bk⟩ s) e).num:=fun e he=>by rw[(hg.same e (h.e e (Iv0 he))).2];exact h.nu e he
 have S2:=h.st;have hm1:=h.mn1;have hm:=h.mn;have hH:∀(x e:Nat),has x=some e->e<(Sc.sT n i ⟨k,has,to,j,q,ph,nu,bs,bk⟩ s).en.length:=fun x e hx=>Nat.lt_of_lt_of_le (h.has x e hx) hg.len;have hU:∀e,phE ph=some e->∀(x e':Nat),o3 has to (some e) x=some e'->e'<(Sc.sT n i ⟨k,has,to,j,q,ph,nu,bs,bk⟩ s).en.length:=fun e he x e' hx=>by
  by_cases hxt:x=to
  ·rw[hxt,Y0]at hx;cases hx;exact hE e he
  ·rw[Z0 hxt]at hx;exact hH x e' hx
 cases ph with
 |j5=>
  exact h.on hg (fun e z=>by cases z) (fun e z=>by cases z) hm (fun _=>hm1 rfl) (fun _=>S2 rfl) (fun e z=>by cases z) (fun z=>by cases z) (fun z=>by cases z) (fun e z=>by cases z) rfl rfl
 |look=>
  unfold A4;dsimp only;cases hf:bo0 s j q with
  |none=>exact h.on hg (fun e z=>by cases z) (fun e z=>by cases z) hm (fun _=>hm1 rfl) (fun _=>S2 rfl) (fun e z=>by cases z) (fun z=>by cases z) (fun z=>by cases z) (fun e z=>by cases z) rfl rfl
  |some e=>exact h.on hg (fun e' z=>by cases z;exact hS.l _ _ (ck0 hf).1) (fun e' z=>by cases z;rfl) hm (fun z=>by cases z) (fun _=>S2 rfl) (fun e z=>by cases z) (fun z=>by cases z) (fun z=>by cases z) (fun e z=>by cases z) rfl rfl
 |more e=>
  exact h.on hg (fun e' z=>by cases z;exact hE e rfl) (fun e z=>by cases z) hm (fun z=>by cases z) (fun _=>S2 rfl) (fun e z=>by cases z) (fun z=>by cases z) (fun z=>by cases z) (fun e z=>by cases z) rfl rfl
 |run e=>
  exact Nxt.fin hn (hU e rfl) hm rfl rfl
 |ep0=>
  exact h.on hg (fun e z=>by cases z) (fun e z=>by cases z) hm (fun _=>hm1 rfl) (fun _=>S2 rfl) (fun e z=>by cases z) (fun z=>by cases z) (fun z=>by cases z) (fun e z=>by cases z) rfl rfl
 |lck=>
  exact h.on hg (fun e z=>by cases z) (fun e z=>by cases z) hm (fun _=>hm1 rfl) (fun _=>S2 rfl) (fun e z=>by cases z) (fun z=>by cases z) (fun z=>by cases z) (fun e z=>by cases z) rfl rfl
 |cd0=>
  unfold A4;dsimp only;cases hf:bo0 s j q with
  |none=>exact h.on hg (fun e z=>by cases z) (fun e z=>by cases z) hm (fun _=>hm1 rfl) (fun _=>S2 rfl) (fun e z=>by cases z) (fun _=>⟨rfl,rfl⟩) (fun _=>La0 hf) (fun e z=>by cases z) rfl rfl
  |some e=>exact h.on hg (fun e' z=>by cases z;exact hS.l _ _ (ck0 hf).1) (fun e' z=>by cases z;rfl) hm (fun z=>by cases z) (fun _=>S2 rfl) (fun e z=>by cases z) (fun z=>by cases z) (fun z=>by cases z) (fun e z=>by cases z) rfl rfl
 |z6 e=>
  exact h.on hg (fun e' z=>by cases z;exact hE e rfl) (fun e z=>by cases z) hm (fun z=>by cases z) (fun _=>S2 rfl) (fun e z=>by cases z) (fun z=>by cases z) (fun z=>by cases z) (fun e z=>by cases z) rfl rfl
 |make=>
  refine h.on hg (fun e' z=>?_) (fun e z=>by cases z) ?_ (fun z=>by cases z) (fun _=>S2 rfl) (fun e z=>by cases z) (fun z=>by cases z) (fun z=>by cases z) (fun e z=>by cases z) rfl rfl
  ·cases z;show s.en.length<(s.en ++ [_]).length;rw[List.length_append,List.length_singleton];omega
  ·show o3 s.mn i (s.mn i+1) i <=k;rw[Y0];have:s.mn i<k:=hm1 rfl;show s.mn i+1 <=k;omega
 |unl e=>
  exact Nxt.fin hn (hU e rfl) hm rfl rfl
 |less e=>
  unfold A4;dsimp only;split
  ·exact h.on hg (fun e' z=>by cases z;exact hE e rfl) (fun e' z=>by cases z;exact hN e rfl) hm (fun z=>by cases z) (fun z=>by cases z) (fun e' z=>by cases z;exact hQ e rfl) (fun z=>by cases z) (fun z=>by cases z) (fun e z=>by cases z) rfl rfl
  ·exact Nxt.fin hn hH hm rfl rfl
 |ad0 e=>
  exact h.on hg (fun e' z=>by cases z;exact hE e rfl) (fun e' z=>by cases z;exact hN e rfl) hm (fun z=>by cases z) (fun z=>by cases z) (fun e' z=>by cases z;exact hQ e rfl) (fun z=>by cases z) (fun z=>by cases z) (fun e z=>by cases z) rfl rfl
 |ae0 e=>
  unfold A4;dsimp only;split
  ·rename_i hi;exact h.on hg (fun e' z=>by cases z;exact hE e rfl) (fun e' z=>by cases z;exact hN e rfl) hm (fun z=>by cases z) (fun z=>by cases z) (fun e' z=>by cases z;exact hQ e rfl) (fun _=>⟨rfl,rfl⟩) (fun z=>by cases z) (fun e' z=>by cases z;exact hi) rfl rfl
  ·exact h.on hg (fun e' z=>by cases z;exact hE e rfl) (fun e' z=>by cases z) hm (fun z=>by cases z) (fun z=>by cases z) (fun e' z=>by cases z;exact hQ e rfl) (fun z=>by cases z) (fun z=>by cases z) (fun e z=>by cases z) rfl rfl
 |K1 e=>
  have hbs:=h.bs rfl;have hin:=h.inn e rfl;unfold A4;dsimp only;split
  ·exact h.on hg (fun e' z=>by cases z;exact hE e rfl) (fun e' z=>by cases z) hm (fun z=>by cases z) (fun z=>by cases z) (fun e' z=>by cases z;exact hQ e rfl) (fun _=>hbs) (fun z=>by cases z) (fun e' z=>by cases z;exact hin) rfl rfl
  ·exact h.on hg (fun e' z=>by cases z;exact hE e rfl) (fun e' z=>by cases z) hm (fun z=>by cases z) (fun z=>by cases z) (fun e' z=>by cases z;exact hQ e rfl) (fun z=>by cases z) (fun z=>by cases z) (fun e z=>by cases z) rfl rfl
 |out e=>
  exact h.on hg (fun e' z=>by cases z;exact hE e rfl) (fun e' z=>by cases z) hm (fun z=>by cases z) (fun z=>by cases z) (fun e' z=>by cases z;exact hQ e rfl) (fun z=>by cases z) (fun z=>by cases z) (fun e z=>by cases z) rfl rfl
 |R6 e=>
  exact Nxt.fin hn hH hm rfl rfl
 |n5 e=>
  exact Nxt.fin hn hH hm rfl rfl
 |W2 e=>
  exact Nxt.fin hn hH hm rfl rfl
end
@[reducible] def Df0 (n m:Nat) (obj:Int) (bo:Nat->List SOp) (le:Nat->Gm->Gm->Prop) (Inv:E3->Gm->World->(Nat->Prop)->Prop) (lb:Nat) (pl:Nat->C7):Sys where
 S:=E3
 L:=Lb
 m:=m
 s0:=jm0
 nil:=fun _=>false
 stp:=fun _ b=>u9 obj b
 rdy:=fun _ b s=>Z5 b s
 beg:=fun i s=>P6 n (bo i) 0 (fun _=>none) s []
 go:=fun i b s=>A4 n (bo i) i b s
 le:=le
 Inv:=Inv
 lb:=lb
 pl:=pl
structure TOk (n m:Nat) (bo:Nat->List SOp) (s:E3) (ft:List (Lb ⊕ Nat)):Prop where
 so:SOk n m (fun i=>(bo i).length) s
 rd:∀j,(s.st j).E5=ft.countP (Gi0 j)
 wr:∀j,ft.countP (kk0 j)=if(s.st j).held=true then 1 else 0
 ex:∀j,(s.st j).held=true->(s.st j).E5=0
 L3:∀i b,ft[i]? =some (.inl b)->LOk n (bo i) i s b
 new:∀i,ft.length <=i->s.mn i=0
section
variable {n m:Nat}{obj:Int}{bo:Nat->List SOp}{s:E3}{ft:List (Lb ⊕ Nat)}{b:Lb}{i:Nat}
theorem TOk.start:TOk n m bo jm0 []:=by
 have h0:Y8 jm0.mn m=0:=by
  have:=zz0 (f:=jm0.mn) (n:=m) (B:=0) fun j _=>Nat.le_refl _;omega
 exact⟨⟨fun j e h=>(by cases h),fun j=>List.nodup_nil,fun j=>⟨Nat.le_refl _,Nat.le_refl _⟩,fun j=>Nat.le_refl _,fun j=>Nat.le_refl _,h0.symm,fun i=>Nat.zero_le _,fun e he=>absurd he (Nat.not_lt_zero _)⟩,fun j=>rfl,fun j=>rfl,fun j h=>(by cases h),fun i b h=>(by cases h),fun i _=>rfl⟩
theorem TOk.beg (h:TOk n m bo s ft) (hn:0<n):TOk n m bo s (ft ++ [(P6 n (bo ft.length) 0 (fun _=>none) s []).N1]):=by
 show TOk n m bo s (ft ++ [(P6 n ((bo ft.length).drop 0) 0 (fun _=>none) s []).N1]);rcases it0 (i:=ft.length) (ops:=bo ft.length) (s:=s) hn _ 0 (fun _=>none) [] rfl (fun x e h=>by cases h) (by rw[h.new _ (Nat.le_refl _)];exact Nat.le_refl _)with hf|⟨b',hf,h3,h4,h5⟩
 ·rw[hf];refine⟨h.so,fun j=>?_,fun j=>?_,h.ex,fun i b hb=>?_,fun i hi=>h.new i (by rw[List.length_append]at hi;omega)⟩
  ·rw[List.countP_append,h.rd];rfl
  ·rw[List.countP_append,h.wr];rfl
  ·rcases ac0 hb with z|⟨_,z⟩
   ·exact h.L3 i b z
   ·cases z
 ·rw[hf];refine⟨h.so,fun j=>?_,fun j=>?_,h.ex,fun i b hb=>?_,fun i hi=>h.new i (by rw[List.length_append]at hi;omega)⟩
  ·have e:[(Sum.inl b':Lb ⊕ Nat)].countP (Gi0 j)=0:=by simp[Gi0,h4]
   rw[List.countP_append,h.rd,e];rfl
  ·have e:[(Sum.inl b':Lb ⊕ Nat)].countP (kk0 j)=0:=by simp[kk0,h5]
   rw[List.countP_append,h.wr,e];rfl
  ·rcases ac0 hb with z|⟨hi,z⟩
   ·exact h.L3 i b z
   ·cases z;subst hi;exact h3
theorem TOk.gr0 (h:TOk n m bo s ft) {i':Nat} {b':Lb} (hb:ft[i']? =some (.inl b')) (hw:eq0 b'.ph=true):(s.st b'.j).held=true:=by
 have h1:0<ft.countP (kk0 b'.j):=List.countP_pos_iff.2 ⟨_,List.mem_of_getElem? hb,by simp[kk0,hw]⟩;rw[h.wr]at h1;cases hh:(s.st b'.j).held with
 |true=>rfl
 |false=>rw[hh]at h1;exact absurd h1 (by decide)
theorem TOk.Gj0 (h:TOk n m bo s ft) {i':Nat} {b':Lb} (hb:ft[i']? =some (.inl b')) (hw:mw0 b'.ph=true):0<(s.st b'.j).E5:=by
 rw[h.rd];exact List.countP_pos_iff.2 ⟨_,List.mem_of_getElem? hb,by simp[Gi0,hw]⟩
theorem TOk.Gk0 (h:TOk n m bo s ft) {i i':Nat} {b b':Lb} (hb:ft[i]? =some (.inl b)) (p7:ft[i']? =some (.inl b')) (hw:eq0 b.ph=true) (L1:eq0 b'.ph=true) (hj:b.j=b'.j):i=i':=by
 rcases Nat.decEq i i' with N3|he
 ·exfalso;have h1:=ou0 (kk0 b.j) (b:=(.inr 0:Lb ⊕ Nat)) hb;have h2:0<(ft.set i (.inr 0:Lb ⊕ Nat)).countP (kk0 b.j):=by
   refine List.countP_pos_iff.2 ⟨.inl b',List.mem_of_getElem? (i:=i') ?_,by simp[kk0,L1,hj]⟩;rw[List.getElem?_set_ne N3];exact p7
  have h3:kk0 b.j (.inl b)=true:=by simp[kk0,hw]
  have h4:kk0 b.j (.inr 0:Lb ⊕ Nat)=false:=rfl;rw[h3,h4,h.wr]at h1;simp only[if_true,Bool.false_eq_true,if_false]at h1;split at h1 <;> omega
 ·exact he
def Iw0:Ph->Bool->Bool
 | .lck,_| .ad0 _,_=>true
 | .unl _,_| .R6 _,_=>false
 |_,h=>h
def Ix0:Ph->Nat->Nat
 | .j5,r=>r+1
 | .run _,r| .ep0,r=>r-1
 |_,r=>r
theorem nt1 (n i:Nat) (b:Lb) (s:E3):((sT n i b s).st b.j).held=Iw0 b.ph (s.st b.j).held/\((sT n i b s).st b.j).E5=Ix0 b.ph (s.st b.j).E5:=by
 obtain⟨k,has,to,j,q,ph,nu,bs,bk⟩:=b;cases ph <;> first
  |exact⟨rfl,rfl⟩
  |simp[sT,W6,an0,Ab0,Y0,Iw0,Ix0]
theorem Sc0 {b:Lb} {s:E3} (h:Z5 b s=true) (hp:b.ph= .j5\/b.ph= .lck\/∃e,b.ph= .ad0 e):(s.st b.j).held=false:=by
 unfold Z5 at h;rcases hp with z|z|⟨e,z⟩ <;> simp[z]at h <;> first|exact h|exact h.1
theorem Sd0 {b:Lb} {s:E3} (h:Z5 b s=true) (hp:b.ph= .lck\/∃e,b.ph= .ad0 e):(s.st b.j).E5=0:=by
 unfold Z5 at h;rcases hp with z|⟨e,z⟩ <;> simp[z]at h <;> exact h.2
theorem TOk.V4 (h:TOk n m bo s ft) (hn:0<n) (him:i<m) (hb:ft[i]? =some (.inl b)) (hr:Z5 b s=true):TOk n m bo (A4 n (bo i) i b s).s (ft.set i (A4 n (bo i) i b s).N1):=by
 have hL:=h.L3 i b hb;have hlen:=(List.getElem?_eq_some_iff.1 hb).1;have hX:=De0 hn hL h.so;rw[rd0];have S2:=nt1 n i b s;have pos:mw0 b.ph=true->0<(s.st b.j).E5:=fun z=>h.Gj0 hb z;have hld:eq0 b.ph=true->(s.st b.j).held=true:=fun z=>h.gr0 hb z;have hrl:=fun z=>Sc0 hr z;have hrr:=fun z=>Sd0 hr z;refine⟨h.so.sT hL him (Nat.le_refl _),fun j=>?_,fun j=>?_,fun j hj=>?_,fun i' b' p7=>?_,fun i' hi'=>?_⟩
 ·have hc:=ou0 (Gi0 j) (b:=(A4 n (bo i) i b s).N1) hb;rw[hX.rd j,<- h.rd j]at hc;have e1:Gi0 j (.inl b)=(decide (b.j=j)&&mw0 b.ph):=rfl;rw[e1]at hc;by_cases e:b.j=j
  ·subst e;rw[S2.2];revert hc pos;cases b.ph <;> simp[mw0,rdN,Ix0] <;> omega
  ·rw[Dd0 (Ne.symm e)];simp only[e,decide_false,Bool.false_and,Bool.false_eq_true,if_false]at hc;omega
 ·have hc:=ou0 (kk0 j) (b:=(A4 n (bo i) i b s).N1) hb;rw[hX.wr j,h.wr j]at hc;have e1:kk0 j (.inl b)=(decide (b.j=j)&&eq0 b.ph):=rfl;rw[e1]at hc;by_cases e:b.j=j
  ·subst e;rw[S2.1];revert hc hld hrl;cases b.ph <;> simp[eq0,wrN,Iw0] <;> cases(s.st b.j).held <;> simp <;> omega
  ·rw[Dd0 (Ne.symm e)];simp only[e,decide_false,Bool.false_and,Bool.false_eq_true,if_false]at hc;omega
 ·by_cases e:j=b.j
  ·subst e;rw[S2.1]at hj;rw[S2.2];have hex:=h.ex b.j;revert hj hrl hrr;cases b.ph <;> simp[Iw0,Ix0] <;> first
    |(intro a c d;rw[a]at d;cases d)
    |(intro a c;exact c)
    |(intro a c;rw[hex c])
    |(intro a;exact hex a)
    |(intro a;rw[hex a])
  ·rw[Dd0 e]at hj⊢;exact h.ex j hj
 ·by_cases e:i'=i
  ·subst e;rw[List.getElem?_set_self hlen]at p7;exact hX.ok b' (Option.some.inj p7)
  ·rw[List.getElem?_set_ne (Ne.symm e)]at p7;refine(h.L3 i' b' p7).other (my0 hL) (as1 e) (fun hw=>?_) (h.so.l b'.j);by_cases hj:b'.j=b.j
   ·have h1:=h.gr0 p7 hw;have h2:=h.ex _ h1;rw[hj]at h1 h2⊢;have Ur0:eq0 b.ph=true->False:=fun z=>e (h.Gk0 hb p7 z hw hj.symm).symm;revert Ur0 pos hrl;unfold sT;cases hp:b.ph <;> simp[mw0,eq0,h1,h2] <;> rfl
   ·exact Dd0 hj
 ·rw[List.length_set]at hi';rw[as1 (by omega)];exact h.new i' hi'
theorem Ad0 {le:Nat->Gm->Gm->Prop} {Inv:E3->Gm->World->(Nat->Prop)->Prop} {lb:Nat} {pl:Nat->C7} (hn:0<n):∀q,(Df0 n m obj bo le Inv lb pl).Reach q->TOk n m bo q.s q.ft:=by
 refine Sys.ind (Y:=Df0 n m obj bo le Inv lb pl) (fun q=>TOk n m bo q.s q.ft) TOk.start (fun q hq J1=>?_) (fun q i b hq hm hf hr=>?_)
 ·have h1:=hq.beg hn;have hb:((Df0 n m obj bo le Inv lb pl).bgn q).s=q.s:=r8 ..;rw[hb];exact h1
 ·have hm':q.ft.length=m:=hm;have hi:i<m:=by rw[<- hm'];exact(List.getElem?_eq_some_iff.1 hf).1
  have h1:=hq.V4 hn hi hf hr;have ht:(Df0 n m obj bo le Inv lb pl).V4 q i={q with s:=(A4 n (bo i) i b q.s).s,ft:=q.ft.set i (A4 n (bo i) i b q.s).N1,evs:=q.evs ++ [(i,u9 obj b)],nts:=q.nts++tell i (q.evs.length+1) (A4 n (bo i) i b q.s).nts,outs:=q.outs ++ [A4 n (bo i) i b q.s],who:=q.who ++ [some i],used:=q.used+1}:=by
   unfold Sys.V4;rw[hf]
  rw[ht];exact h1
end
theorem Y6 {w:World} {b:Nat} {cs:Array Value} {T:TypeId} (h:K0 w b cs T) (hT:T≠0):b<w.heap.size/\w.heap[b]? ≠some nothing:=by
 refine⟨(P3 h).lt,fun e=>?_⟩;have h':w.heap[b]? =some (.cells cs T (0,0)):=h;rw[h']at e;have e1:=Option.some.inj e;unfold nothing at e1;injection e1 with _ e2
 exact hT e2
def eb (m:Gm) (e:Nat):Nat:=m (9*e)-1
def va (m:Gm) (j v:Nat):Nat:=m (9*(j+64*v)+1)-1
def vc (m:Gm) (j v:Nat):Nat:=m (9*(j+64*v)+2)
def lmG (m:Gm) (e:Nat):Nat:=m (9*e+3)-1
def ltG (m:Gm) (e:Nat):Nat:=m (9*e+4)-1
def cnG (m:Gm) (e:Nat):Nat:=m (9*e+5)-1
def iaC (x:Nat):Option Addr:=if x <=1 then none else some ⟨x-2,0,none⟩
def iaK (a:Option Addr):Nat:=match a with
 |none=>1
 |some x=>x.block+2
theorem au1 {a:Option Addr} (h:∀x,a=some x->x=⟨x.block,0,none⟩):iaC (iaK a)=a:=by
 cases a with
 |none=>rfl
 |some x=>
  show(if x.block+2 <=1 then none else some (⟨x.block+2-2,0,none⟩:Addr))=some x;rw[if_neg (by omega),Nat.add_sub_cancel];exact congrArg some (h x rfl).symm
def iaG (m:Gm) (j v i:Nat):Option Addr:=iaC (m (9*((j+64*v)*256+i)+7))
def icG (m:Gm) (j v i:Nat):Nat:=m (9*((j+64*v)*256+i)+8)-1
def LeG (m m':Gm):Prop:=∀x,m x≠0->m' x=m x
theorem LeG.refl (m:Gm):LeG m m:=fun _ _=>rfl
theorem LeG.trans {a b c:Gm} (h:LeG a b) (h':LeG b c):LeG a c:=fun x hx=>by
 have h1:=h x hx;rw[h' x (by rw[h1];exact hx),h1]
structure o6 where
 ky:Nat->ByteArray
structure W4 where
 n:Nat
 m:Nat
 obj:Int
 bo:Nat->List SOp
 tb:Nat
 wb:Nat
 rw:Nat->Nat
 ls:Nat->Nat
 cl:Nat->Nat
 RO:Nat->Prop
 wI:World
 B:Nat
 lb:Nat
 pl:Nat->C7
def lkC (p:W4) (s:E3) (j:Nat):Array Value:=#[.int .i64 p.obj,.int .i64 (j:Nat),.bool (s.st j).held,.int .i64 ((s.st j).E5:Nat)]
def clC (p:W4) (m:Gm) (s:E3) (j:Nat):Array Value:=#[.int .i64 (oW p.obj 1),.int .i64 (j:Nat),.pointer (some ⟨p.wb,0,none⟩),.slice (some ⟨va m j (s.st j).M3,0,none⟩) (s.st j).O0 (vc m j (s.st j).M3),.int .i64 ((s.st j).l.length:Nat),.int .i64 ((s.st j).made:Nat)]
def enC (s:E3) (m:Gm) (e:Nat):Array Value:=#[.string (gE s e).key,.int .i64 ((gE s e).num:Nat),.pointer (some ⟨lmG m e,0,none⟩),.pointer (some ⟨cnG m e,0,none⟩)]
def ltC (p:W4) (s:E3) (e:Nat):Array Value:=#[.int .i64 (oW p.obj 2),.int .i64 ((gE s e).num:Nat),.bool (gE s e).held,.int .i64 0]
def cnC (p:W4) (s:E3) (e:Nat) (sa:Value):Array Value:=#[.int .i64 (oW p.obj 3),.int .i64 ((gE s e).num:Nat),.pointer (some ⟨p.wb,0,none⟩),.int .i64 (gE s e).K1,sa]
structure EnM (p:W4) (m:Gm) (w:World) (s:E3) (r:o6) (e:Nat):Prop where
 g:m (9*e)≠0/\m (9*e+3)≠0/\m (9*e+4)≠0/\m (9*e+5)≠0
 gn:m (9*e+6)=(gE s e).num+1
 ky:r.ky (eb m e)=(gE s e).key
 sz:(gE s e).key.size <=1000000000000
 lo:p.B <=eb m e/\p.B <=lmG m e/\p.B <=ltG m e/\p.B <=cnG m e
 hE:K0 w (eb m e) (enC s m e) 127
 hM:K0 w (lmG m e) #[.iface 242 (.pointer (some ⟨ltG m e,0,none⟩))] 187
 hL:K0 w (ltG m e) (ltC p s e) 244
 hC:∃sa,K0 w (cnG m e) (cnC p s e sa) 191
structure W3 (p:W4) (m:Gm) (w:World) (s:E3) (r:o6):Prop where
 lk:∀j,j<p.n->K0 w (p.ls j) (lkC p s j) 244
 cl:∀j,j<p.n->K0 w (p.cl j) (clC p m s j) 164
 bk:∀j,j<p.n->Bk w p.B (s.st j).O0 (some ⟨va m j (s.st j).M3,0,none⟩) (vc m j (s.st j).M3) (at_ r.ky (s.st j).O0 ((s.st j).l.map (eb m))) (iaG m j (s.st j).M3) (icG m j (s.st j).M3)
 en:∀e,e<s.en.length->EnM p m w s r e
 inj:∀e e',e<s.en.length->e'<s.en.length->e≠e'->eb m e≠eb m e'/\ltG m e≠ltG m e'/\cnG m e≠cnG m e'
 sep:∀e j,e<s.en.length->j<p.n->ltG m e≠p.ls j
 gv:∀j,j<p.n->m (9*(j+64*(s.st j).M3)+1)≠0/\m (9*(j+64*(s.st j).M3)+2)≠0
 gi:∀j i,j<p.n->i<(s.st j).O0->m (9*((j+64*(s.st j).M3)*256+i)+7)≠0/\m (9*((j+64*(s.st j).M3)*256+i)+8)≠0
 fe:∀e,s.en.length <=e->m (9*e)=0/\m (9*e+3)=0/\m (9*e+4)=0/\m (9*e+5)=0/\m (9*e+6)=0
 fv:∀j v,j<p.n->(s.st j).M3<v->m (9*(j+64*v)+1)=0/\m (9*(j+64*v)+2)=0/\∀i,i<256->m (9*((j+64*v)*256+i)+7)=0/\m (9*((j+64*v)*256+i)+8)=0
 ro:∀b,p.RO b->w.heap[b]? =p.wI.heap[b]?
def SF (p:W4) (m:Gm) (s:E3) (r:o6) (b:Nat):Prop :=
 (∃j,j<p.n/\(b=p.ls j\/b=p.cl j\/b=va m j (s.st j).M3\/∃i,i<(s.st j).O0/\iaG m j (s.st j).M3 i≠none/\b=ab (iaG m j (s.st j).M3 i))) \/
 (∃e,e<s.en.length/\(b=eb m e\/b=lmG m e\/b=ltG m e\/b=cnG m e))\/p.RO b
def nu1 (p:W4) (s:E3) (m:Gm) (w:World) (F:Nat->Prop):Prop:=∃r,F=SF p m s r/\W3 p m w s r
@[reducible] def S0 (p:W4):Sys:=Df0 p.n p.m p.obj p.bo (fun _=>LeG) (nu1 p) p.lb p.pl
structure A5 (p:W4):Prop where
 n:0<p.n/\p.n <=64
 tot:Y8 (fun i=>(p.bo i).length) p.m <=200
 m:p.m <=16
 ks:∀i o,o∈p.bo i->o.key.size <=1000000000000
 ro:∀b,p.RO b->b<p.wI.heap.size/\p.wI.heap[b]? ≠some nothing
 roD:∀b,p.RO b->b<p.B\/∃cs T,K0 p.wI b cs T/\T≠244/\T≠164/\T≠191
 lo:∀j,j<p.n->p.B <=p.ls j/\p.B <=p.cl j
 hT:p.RO p.tb/\K0 p.wI p.tb (arr 131 (ak0 p.wb p.obj p.n p.rw p.cl p.n p.n)) 92
 hW:p.RO p.wb/\K0 p.wI p.wb #[.bool false] 99
 hR:∀j,j<p.n->p.RO (p.rw j)/\K0 p.wI (p.rw j) #[.iface 242 (.pointer (some ⟨p.ls j,0,none⟩))] 160
section
variable {p:W4}{m:Gm}{w w':World}{s s':E3}{r:o6}
theorem SF.lk {j:Nat} (h:j<p.n):SF p m s r (p.ls j):=.inl ⟨j,h,.inl rfl⟩
theorem SF.cl {j:Nat} (h:j<p.n):SF p m s r (p.cl j):=.inl ⟨j,h,.inr (.inl rfl)⟩
theorem SF.out {j:Nat} (h:j<p.n):SF p m s r (va m j (s.st j).M3):=.inl ⟨j,h,.inr (.inr (.inl rfl))⟩
theorem SF.inn {j i:Nat} (h:j<p.n) (hi:i<(s.st j).O0) (ha:iaG m j (s.st j).M3 i≠none):SF p m s r (ab (iaG m j (s.st j).M3 i)):=.inl ⟨j,h,.inr (.inr (.inr ⟨i,hi,ha,rfl⟩))⟩
theorem SF.eb {e:Nat} (h:e<s.en.length):SF p m s r (Sc.eb m e):=.inr (.inl ⟨e,h,.inl rfl⟩)
theorem SF.lm {e:Nat} (h:e<s.en.length):SF p m s r (lmG m e):=.inr (.inl ⟨e,h,.inr (.inl rfl)⟩)
theorem SF.lt {e:Nat} (h:e<s.en.length):SF p m s r (ltG m e):=.inr (.inl ⟨e,h,.inr (.inr (.inl rfl))⟩)
theorem SF.cn {e:Nat} (h:e<s.en.length):SF p m s r (cnG m e):=.inr (.inl ⟨e,h,.inr (.inr (.inr rfl))⟩)
theorem EnM.congr {e:Nat} (h:EnM p m w s r e) (he:∀b,b=eb m e\/b=lmG m e\/b=ltG m e\/b=cnG m e->w'.heap[b]? =w.heap[b]?):EnM p m w' s r e :=
 ⟨h.g,h.gn,h.ky,h.sz,h.lo,(he _ (.inl rfl)).trans h.hE,(he _ (.inr (.inl rfl))).trans h.hM,(he _ (.inr (.inr (.inl rfl)))).trans h.hL,let⟨sa,hC⟩:=h.hC;⟨sa,(he _ (.inr (.inr (.inr rfl)))).trans hC⟩⟩
theorem W3.congr (h:W3 p m w s r) (he:∀b,SF p m s r b->w'.heap[b]? =w.heap[b]?):W3 p m w' s r :=
 ⟨fun j hj=>(he _ (SF.lk hj)).trans (h.lk j hj),fun j hj=>(he _ (SF.cl hj)).trans (h.cl j hj),fun j hj=>(h.bk j hj).congr (fun _=>he _ (SF.out hj)) fun _i hi ha=>he _ (SF.inn hj hi ha),fun e hl=>(h.en e hl).congr fun b hb=>he b (.inr (.inl ⟨e,hl,hb⟩)),h.inj,h.sep,h.gv,h.gi,h.fe,h.fv,fun b hb=>(he b (.inr (.inr hb))).trans (h.ro b hb)⟩
theorem W3.vis (h:W3 p m w s r) (hp:A5 p) {b:Nat} (hb:SF p m s r b):b<w.heap.size/\w.heap[b]? ≠some nothing:=by
 rcases hb with⟨j,hj,rfl|rfl|rfl|⟨i,hi,ha,rfl⟩⟩|⟨e,hl,rfl|rfl|rfl|rfl⟩|hb
 ·exact Y6 (h.lk j hj) (by decide)
 ·exact Y6 (h.cl j hj) (by decide)
 ·obtain⟨cur,hc,_⟩:=(h.bk j hj).out.row (by simp);exact Y6 hc (by decide)
 ·obtain⟨cur,hc,_⟩:=((h.bk j hj).inn i hi).row ha;exact Y6 hc (by decide)
 ·exact Y6 (h.en e hl).hE (by decide)
 ·exact Y6 (h.en e hl).hM (by decide)
 ·exact Y6 (h.en e hl).hL (by decide)
 ·obtain⟨sa,hC⟩:=(h.en e hl).hC;exact Y6 hC (by decide)
 ·have h1:=h.ro b hb;have h2:=hp.ro b hb;refine⟨?_,by rw[h1];exact h2.2⟩;rcases Nat.lt_or_ge b w.heap.size with z|z
  ·exact z
  ·rw[Array.getElem?_eq_none z,Array.getElem?_eq_getElem h2.1]at h1;cases h1
theorem tz0 (hp:A5 p):qm0 (S0 p):=by
 refine⟨⟨fun _ m=>LeG.refl m,fun _ _ _ _ h h'=>h.trans h'⟩,fun s m w w' F h he=>?_,fun s m w F h b hb=>?_⟩
 ·obtain⟨r,rfl,hM⟩:=h;exact⟨r,rfl,hM.congr he⟩
 ·obtain⟨r,rfl,hM⟩:=h;exact hM.vis hp hb
theorem W3.rob (h:W3 p m w s r) {b:Nat} {cs:Array Value} {T:TypeId} (hb:p.RO b/\K0 p.wI b cs T):K0 w b cs T:=(h.ro b hb.1).trans hb.2
theorem W3.off (h:W3 p m w s r) (hp:A5 p) {x b:Nat} {cs:Array Value} {T:TypeId} (hx:K0 w x cs T) (hB:p.B <=x) (hT:T=244\/T=164\/T=191) (hb:p.RO b):b≠x:=by
 rcases hp.roD b hb with J1|⟨ds,U,hD,t1,t2,t3⟩
 ·omega
 ·have hD':K0 w b ds U:=(h.ro b hb).trans hD;refine K0.ne hD' hx ?_;rcases hT with rfl|rfl|rfl
  ·exact t1
  ·exact t2
  ·exact t3
theorem W3.upd (h:W3 p m w s r) (hp:A5 p) {x y:Nat} {cs:Array Value} {T:TypeId} (hx:K0 w x cs T) (hB:p.B <=x) (hT:T=244\/T=191) (hg:aj0 w w' x y) (hy:y=x\/¬SF p m s r y)
  (hl:s'.en.length=s.en.length) (hs:∀j,(s'.st j).l=(s.st j).l/\(s'.st j).O0=(s.st j).O0/\(s'.st j).made=(s.st j).made/\(s'.st j).M3=(s.st j).M3) (hk:∀e,e<s.en.length->(gE s' e).key=(gE s e).key/\(gE s' e).num=(gE s e).num)
  (hlk:∀j,j<p.n->(p.ls j=x/\K0 w' x (lkC p s' j) 244)\/(p.ls j≠x/\lkC p s' j=lkC p s j)) (J1:∀e,e<s.en.length->(ltG m e=x/\K0 w' x (ltC p s' e) 244)\/(ltG m e≠x/\ltC p s' e=ltC p s e))
  (hcn:∀e,e<s.en.length->(cnG m e=x/\∃sa,K0 w' x (cnC p s' e sa) 191)\/(cnG m e≠x/\∀sa,cnC p s' e sa=cnC p s e sa)):W3 p m w' s' r:=by
 have stay:∀b,SF p m s r b->b≠x->w'.heap[b]? =w.heap[b]?:=fun b hb N3=>hg.block b (h.vis hp hb).1 N3 fun e=>by
  subst e;rcases hy with z|z
  ·exact N3 z
  ·exact z hb
 have hTs:T≠164/\T≠195/\T≠71/\T≠127/\T≠187:=by
  rcases hT with rfl|rfl <;> exact⟨by decide,by decide,by decide,by decide,by decide⟩
 have hgv:=h.gv;refine⟨fun j hj=>?_,fun j hj=>?_,fun j hj=>?_,fun e he=>?_,fun e e' he x9=>by rw[hl]at he x9;exact h.inj e e' he x9,fun e j he=>by rw[hl]at he;exact h.sep e j he,fun j hj=>by rw[(hs j).2.2.2];exact h.gv j hj,fun j i hj hi=>by rw[(hs j).2.1]at hi;rw[(hs j).2.2.2];exact h.gi j i hj hi,fun e he=>by rw[hl]at he;exact h.fe e he,fun j v hj=>by rw[(hs j).2.2.2];exact h.fv j v hj,fun b hb=>?_⟩
 ·rcases hlk j hj with⟨e,hb⟩|⟨e,hb⟩
  ·rw[e];exact hb
  ·rw[hb];exact(stay _ (SF.lk hj) e).trans (h.lk j hj)
 ·have e:clC p m s' j=clC p m s j:=by unfold clC;rw[(hs j).1,(hs j).2.1,(hs j).2.2.1,(hs j).2.2.2]
  rw[e];exact(stay _ (SF.cl hj) (K0.ne (h.cl j hj) hx hTs.1.symm)).trans (h.cl j hj)
 ·rw[(hs j).1,(hs j).2.1,(hs j).2.2.2];refine(h.bk j hj).congr (fun _=>stay _ (SF.out hj) ?_) fun i hi ha=>stay _ (SF.inn hj hi ha) ?_
  ·obtain⟨cur,hc,_⟩:=(h.bk j hj).out.row (by simp);exact K0.ne hc hx hTs.2.1.symm
  ·obtain⟨cur,hc,_⟩:=((h.bk j hj).inn i hi).row ha;exact K0.ne hc hx hTs.2.2.1.symm
 ·rw[hl]at he;have hE:=h.en e he;have hk:=hk e he;refine⟨hE.g,by rw[hk.2];exact hE.gn,by rw[hk.1];exact hE.ky,by rw[hk.1];exact hE.sz,hE.lo,?_,(stay _ (SF.lm he) (K0.ne hE.hM hx hTs.2.2.2.2.symm)).trans hE.hM,?_,?_⟩
  ·have e1:enC s' m e=enC s m e:=by unfold enC;rw[hk.1,hk.2]
   rw[e1];exact(stay _ (SF.eb he) (K0.ne hE.hE hx hTs.2.2.2.1.symm)).trans hE.hE
  ·rcases J1 e he with⟨e1,hb⟩|⟨e1,hb⟩
   ·rw[e1];exact hb
   ·rw[hb];exact(stay _ (SF.lt he) e1).trans hE.hL
  ·rcases hcn e he with⟨e1,hb⟩|⟨e1,hb⟩
   ·rw[e1];exact hb
   ·obtain⟨sa,hC⟩:=hE.hC;exact⟨sa,by rw[hb sa];exact(stay _ (SF.cn he) e1).trans hC⟩
 ·exact(stay b (.inr (.inr hb)) (h.off hp hx hB (by rcases hT with z|z;exact .inl z;exact .inr (.inr z)) hb)).trans (h.ro b hb)
end
theorem ov0 {w:World} {b:Nat} {cs ds:Array Value} {T U:TypeId} (h1:K0 w b cs T) (h2:K0 w b ds U):cs=ds:=by
 have e:(some (Obj.cells cs T (0,0)))=some (Obj.cells ds U (0,0)):=h1.symm.trans h2;injection e with e
 injection e with e
section
variable {p:W4}{m:Gm}{w w':World}{s:E3}{r:o6}
theorem W3.nv1 (h:W3 p m w s r) {j j':Nat} (hj:j<p.n) (r9:j'<p.n) (N3:j≠j'):p.ls j≠p.ls j':=fun e=>by
 have h1:=h.lk j hj;rw[e]at h1;have h2:=ov0 h1 (h.lk j' r9);unfold lkC at h2;have h3:=congrArg (fun a:Array Value=>a.toList) h2;simp at h3;omega
theorem W3.nw1 (h:W3 p m w s r) {j j':Nat} (hj:j<p.n) (r9:j'<p.n) (N3:j≠j'):p.cl j≠p.cl j':=fun e=>by
 have h1:=h.cl j hj;rw[e]at h1;have h2:=ov0 h1 (h.cl j' r9);unfold clC at h2;have h3:=congrArg (fun a:Array Value=>a.toList) h2;simp at h3;omega
theorem aj0.of {b:Nat} (hg:w.grownBy w' (some b)):aj0 w w' b b:=(aj0.refl w b b).step (.inl rfl) hg
theorem W3.lock (h:W3 p m w s r) (hp:A5 p) {j:Nat} (hj:j<p.n) {hd:Bool} {rd:Nat} (hg:w.grownBy w' (some (p.ls j))) (hB:K0 w' (p.ls j) #[.int .i64 p.obj,.int .i64 (j:Nat),.bool hd,.int .i64 (rd:Nat)] 244):W3 p m w' (W6 s j {s.st j with held:=hd,E5:=rd}) r:=by
 have S2:∀j',(o3 s.st j {s.st j with held:=hd,E5:=rd} j').l=(s.st j').l/\(o3 s.st j {s.st j with held:=hd,E5:=rd} j').O0=(s.st j').O0/\(o3 s.st j {s.st j with held:=hd,E5:=rd} j').made=(s.st j').made/\(o3 s.st j {s.st j with held:=hd,E5:=rd} j').M3=(s.st j').M3:=fun j'=>by
  by_cases e:j'=j
  ·subst e;rw[Y0];exact⟨rfl,rfl,rfl,rfl⟩
  ·rw[Z0 e];exact⟨rfl,rfl,rfl,rfl⟩
 refine h.upd hp (h.lk j hj) (hp.lo j hj).1 (.inl rfl) (aj0.of hg) (.inl rfl) rfl S2 (fun _ _=>⟨rfl,rfl⟩) (fun j' r9=>?_) (fun e he=>.inr ⟨h.sep e j he hj,rfl⟩) (fun e he=>?_)
 ·by_cases e:j'=j
  ·subst e;refine .inl ⟨rfl,?_⟩;unfold lkC;show K0 w' _ #[_,_,.bool (o3 s.st j' _ j').held,.int .i64 ((o3 s.st j' _ j').E5:Nat)] _;rw[Y0];exact hB
  ·refine .inr ⟨h.nv1 r9 hj e,?_⟩;unfold lkC;show #[_,_,Value.bool (o3 s.st j _ j').held,Value.int .i64 ((o3 s.st j _ j').E5:Nat)]=_;rw[Z0 e]
 ·obtain⟨sa,hC⟩:=(h.en e he).hC;exact .inr ⟨K0.ne hC (h.lk j hj) (by decide),fun _=>rfl⟩
theorem W3.n5 (h:W3 p m w s r) (hp:A5 p) {e:Nat} (he:e<s.en.length) {hd:Bool} (hg:w.grownBy w' (some (ltG m e))) (hB:K0 w' (ltG m e) #[.int .i64 (oW p.obj 2),.int .i64 ((gE s e).num:Nat),.bool hd,.int .i64 0] 244):W3 p m w' (A8 s e {gE s e with held:=hd}) r:=by
 have hE:=h.en e he;refine h.upd hp hE.hL hE.lo.2.2.1 (.inl rfl) (aj0.of hg) (.inl rfl) (List.length_set ..) (fun _=>⟨rfl,rfl,rfl,rfl⟩) (da0 (x:={gE s e with held:=hd}) he rfl rfl).same (fun j hj=>.inr ⟨(h.sep e j he hj).symm,rfl⟩) (fun e' x9=>?_) (fun e' x9=>?_)
 ·by_cases hee:e'=e
  ·subst hee;refine .inl ⟨rfl,?_⟩;unfold ltC;rw[er0 he,if_pos rfl];exact hB
  ·refine .inr ⟨(h.inj e' e x9 he hee).2.1,?_⟩;unfold ltC;rw[er0 he,if_neg hee]
 ·obtain⟨sa,hC⟩:=(h.en e' x9).hC;refine .inr ⟨K0.ne hC hE.hL (by decide),fun sa=>?_⟩;unfold cnC;rw[er0 he];by_cases hee:e'=e
  ·subst hee;rw[if_pos rfl]
  ·rw[if_neg hee]
theorem W3.cnt (h:W3 p m w s r) (hp:A5 p) {e y:Nat} (he:e<s.en.length) {z:Int} {sa:Value} (hg:aj0 w w' (cnG m e) y) (hy:¬SF p m s r y) (hB:K0 w' (cnG m e) #[.int .i64 (oW p.obj 3),.int .i64 ((gE s e).num:Nat),.pointer (some ⟨p.wb,0,none⟩),.int .i64 z,sa] 191):W3 p m w' (A8 s e {gE s e with K1:=z}) r:=by
 have hE:=h.en e he;obtain⟨sa0,hC0⟩:=hE.hC;refine h.upd hp hC0 hE.lo.2.2.2 (.inr rfl) hg (.inr hy) (List.length_set ..) (fun _=>⟨rfl,rfl,rfl,rfl⟩) (da0 (x:={gE s e with K1:=z}) he rfl rfl).same (fun j hj=>.inr ⟨K0.ne (h.lk j hj) hC0 (by decide),rfl⟩) (fun e' x9=>?_) (fun e' x9=>?_)
 ·refine .inr ⟨K0.ne (h.en e' x9).hL hC0 (by decide),?_⟩;unfold ltC;rw[er0 he];by_cases hee:e'=e
  ·subst hee;rw[if_pos rfl]
  ·rw[if_neg hee]
 ·by_cases hee:e'=e
  ·subst hee;refine .inl ⟨rfl,sa,?_⟩;unfold cnC;rw[er0 he,if_pos rfl];exact hB
  ·refine .inr ⟨(h.inj e' e x9 he hee).2.2,fun sa=>?_⟩;unfold cnC;rw[er0 he,if_neg hee]
end
def au0 (m:Gm) (j v a c:Nat) (ia:Nat->Option Addr) (ic:Nat->Nat):Gm:=fun x=>if x=9*(j+64*v)+1 then a+1 else if x=9*(j+64*v)+2 then c else if x%9=7/\x/9/256=j+64*v then iaK (ia (x/9%256)) else if x%9=8/\x/9/256=j+64*v then ic (x/9%256)+1 else m x
def bp0 (m:Gm) (e b lm lt cn nu:Nat):Gm:=fun x=>if x=9*e+6 then nu+1 else if x=9*e then b+1 else if x=9*e+3 then lm+1 else if x=9*e+4 then lt+1 else if x=9*e+5 then cn+1 else m x
section
variable (m:Gm){j v j' v' a c e k i:Nat}{ia:Nat->Option Addr}{ic:Nat->Nat}
theorem na0 (hk:k=0\/k=3\/k=4\/k=5\/k=6):au0 m j v a c ia ic (9*e+k)=m (9*e+k):=by unfold au0;rw[if_neg (by omega),if_neg (by omega),if_neg (by omega),if_neg (by omega)]
theorem Iy0:au0 m j v a c ia ic (9*e)=m (9*e):=na0 m (.inl rfl)
theorem Gl0:au0 m j v a c ia ic (9*(j+64*v)+1)=a+1:=by unfold au0;rw[if_pos rfl]
theorem Se0:au0 m j v a c ia ic (9*(j+64*v)+2)=c:=by unfold au0;rw[if_neg (by omega),if_pos rfl]
theorem Gm0 (hi:i<256):au0 m j v a c ia ic (9*((j+64*v)*256+i)+7)=iaK (ia i):=by
 unfold au0;rw[if_neg (by omega),if_neg (by omega),if_pos (by omega),show(9*((j+64*v)*256+i)+7)/9%256=i by omega]
theorem Sf0 (hi:i<256):au0 m j v a c ia ic (9*((j+64*v)*256+i)+8)=ic i+1:=by
 unfold au0;rw[if_neg (by omega),if_neg (by omega),if_neg (by omega),if_pos (by omega),show(9*((j+64*v)*256+i)+8)/9%256=i by omega]
theorem ow0 (hj:j<64) (r9:j'<64) (N3:j'≠j\/v'≠v):au0 m j v a c ia ic (9*(j'+64*v')+1)=m (9*(j'+64*v')+1):=by unfold au0;rw[if_neg (by omega),if_neg (by omega),if_neg (by omega),if_neg (by omega)]
theorem Ae0 (hj:j<64) (r9:j'<64) (N3:j'≠j\/v'≠v):au0 m j v a c ia ic (9*(j'+64*v')+2)=m (9*(j'+64*v')+2):=by unfold au0;rw[if_neg (by omega),if_neg (by omega),if_neg (by omega),if_neg (by omega)]
theorem ox0 (hj:j<64) (r9:j'<64) (N3:j'≠j\/v'≠v) (hi:i<256):au0 m j v a c ia ic (9*((j'+64*v')*256+i)+7)=m (9*((j'+64*v')*256+i)+7):=by unfold au0;rw[if_neg (by omega),if_neg (by omega),if_neg (by omega),if_neg (by omega)]
theorem Af0 (hj:j<64) (r9:j'<64) (N3:j'≠j\/v'≠v) (hi:i<256):au0 m j v a c ia ic (9*((j'+64*v')*256+i)+8)=m (9*((j'+64*v')*256+i)+8):=by unfold au0;rw[if_neg (by omega),if_neg (by omega),if_neg (by omega),if_neg (by omega)]
end
theorem nb0 (m:Gm) (e b lm lt cn nu x:Nat) (k:Nat) (hk:k=1\/k=2\/k=7\/k=8):bp0 m e b lm lt cn nu (9*x+k)=m (9*x+k):=by unfold bp0;rw[if_neg (by omega),if_neg (by omega),if_neg (by omega),if_neg (by omega),if_neg (by omega)]
theorem oy0 (m:Gm) (e b lm lt cn nu:Nat):bp0 m e b lm lt cn nu (9*e)=b+1/\bp0 m e b lm lt cn nu (9*e+3)=lm+1/\bp0 m e b lm lt cn nu (9*e+4)=lt+1/\bp0 m e b lm lt cn nu (9*e+5)=cn+1/\bp0 m e b lm lt cn nu (9*e+6)=nu+1:=by
 unfold bp0;exact⟨by rw[if_neg (by omega),if_pos rfl],by rw[if_neg (by omega),if_neg (by omega),if_pos rfl],by rw[if_neg (by omega),if_neg (by omega),if_neg (by omega),if_pos rfl],by rw[if_neg (by omega),if_neg (by omega),if_neg (by omega),if_neg (by omega),if_pos rfl],by rw[if_pos rfl]⟩
theorem lu0 (m:Gm) {e b lm lt cn nu e':Nat} (h:e'≠e):bp0 m e b lm lt cn nu (9*e')=m (9*e')/\bp0 m e b lm lt cn nu (9*e'+3)=m (9*e'+3)/\bp0 m e b lm lt cn nu (9*e'+4)=m (9*e'+4)/\bp0 m e b lm lt cn nu (9*e'+5)=m (9*e'+5)/\bp0 m e b lm lt cn nu (9*e'+6)=m (9*e'+6):=by
 unfold bp0;refine⟨?_,?_,?_,?_,?_⟩ <;> rw[if_neg (by omega),if_neg (by omega),if_neg (by omega),if_neg (by omega),if_neg (by omega)]
section
variable {p:W4}{m:Gm}{w w':World}{s s':E3}{r:o6}
theorem W3.leG (h:W3 p m w s r) {j a c:Nat} {ia:Nat->Option Addr} {ic:Nat->Nat} (hj:j<p.n):LeG m (au0 m j ((s.st j).M3+1) a c ia ic):=fun x hx=>by
 have h1:=h.fv j ((s.st j).M3+1) hj (Nat.lt_succ_self _);unfold au0;rw[if_neg (fun e=>hx (by rw[e];exact h1.1)),if_neg (fun e=>hx (by rw[e];exact h1.2.1)),if_neg (fun e=>?_),if_neg (fun e=>?_)]
 ·have V5:x=9*((j+64*((s.st j).M3+1))*256+x/9%256)+8:=by omega
  have h2:=(h1.2.2 (x/9%256) (by omega)).2;rw[<- V5]at h2;exact hx h2
 ·have V5:x=9*((j+64*((s.st j).M3+1))*256+x/9%256)+7:=by omega
  have h2:=(h1.2.2 (x/9%256) (by omega)).1;rw[<- V5]at h2;exact hx h2
theorem W3.leN (h:W3 p m w s r) {b lm lt cn nu:Nat}:LeG m (bp0 m s.en.length b lm lt cn nu):=fun x hx=>by
 have h1:=h.fe _ (Nat.le_refl _);unfold bp0;rw[if_neg (fun e=>hx (by rw[e];exact h1.2.2.2.2)),if_neg (fun e=>hx (by rw[e];exact h1.1)),if_neg (fun e=>hx (by rw[e];exact h1.2.1)),if_neg (fun e=>hx (by rw[e];exact h1.2.2.1)),if_neg (fun e=>hx (by rw[e];exact h1.2.2.2.1))]
theorem lv0 {ky ky':Nat->ByteArray} {n:Nat} {l:List Nat} (h:∀b∈l,ky' b=ky b):at_ ky' n l=at_ ky n l:=by
 funext j;unfold at_
 exact List.filter_congr fun b hb=>by rw[h b hb]
theorem W3.Gn0 (h:W3 p m w s r) (h1:s'.st=s.st) (h2:s'.en=s.en):W3 p m w s' r:=by
 obtain⟨st,en,mn⟩:=s;obtain⟨st',en',mn'⟩:=s';cases h1;cases h2;exact⟨h.lk,h.cl,h.bk,fun e he=>let hE:=h.en e he;⟨hE.g,hE.gn,hE.ky,hE.sz,hE.lo,hE.hE,hE.hM,hE.hL,hE.hC⟩,h.inj,h.sep,h.gv,h.gi,h.fe,h.fv,h.ro⟩
theorem Bk.Dg0 {w:World} {B n c:Nat} {a:Option Addr} {sl:Nat->List Nat} {ia ia':Nat->Option Addr} {ic ic':Nat->Nat} (h:Bk w B n a c sl ia ic) (he:∀i,i<n->ia' i=ia i/\ic' i=ic i):Bk w B n a c sl ia' ic':=by
 refine⟨?_,fun i hi=>by rw[(he i hi).1,(he i hi).2];exact h.inn i hi⟩;have h1:=h.out
 rwa [mh0 (g:=fun j=>Value.slice (ia' j) (sl j).length (ic' j)) fun j hj=>by rw[(he j hj).1,(he j hj).2]]at h1
theorem W3.Sg0 (h:W3 p m w s r) (hp:A5 p) {j made O0 a c:Nat} {l:List Nat} {ia:Nat->Option Addr} {ic:Nat->Nat} (hj:j<p.n) (Go0:O0 <=256) (hso:∀j,(s.st j).O0 <=256) (hg:w.grownBy w' (some (p.cl j))) (hc:c≠0)
  (hC:K0 w' (p.cl j) #[.int .i64 (oW p.obj 1),.int .i64 (j:Nat),.pointer (some ⟨p.wb,0,none⟩),.slice (some ⟨a,0,none⟩) O0 c,.int .i64 (l.length:Nat),.int .i64 (made:Nat)] 164)
  (hB:Bk w' p.B O0 (some ⟨a,0,none⟩) c (at_ r.ky O0 (l.map (eb m))) ia ic) :
  W3 p (au0 m j ((s.st j).M3+1) a c ia ic) w' (W6 s j ⟨(s.st j).held,(s.st j).E5,l,made,O0,(s.st j).M3+1⟩) r:=by
 have ce0:∀j',j'<p.n->j'<64:=fun j' r9=>Nat.lt_of_lt_of_le r9 hp.n.2;have stay:∀b,SF p m s r b->b≠p.cl j->w'.heap[b]? =w.heap[b]?:=fun b hb N3=>hg.block b (h.vis hp hb).1 fun e=>N3 (Option.some.inj e);have hx:=h.cl j hj;obtain⟨M,hM⟩:∃M,M=au0 m j ((s.st j).M3+1) a c ia ic:=⟨_,rfl⟩
 rw[<- hM];have hE:∀e k,(k=0\/k=3\/k=4\/k=5\/k=6)->M (9*e+k)=m (9*e+k):=fun e k hk=>by rw[hM];exact na0 m hk
 have hE0:∀e,M (9*e)=m (9*e):=fun e=>hE e 0 (.inl rfl);have heb:∀e,eb M e=eb m e:=fun e=>by unfold eb;rw[hE0]
 have hlm:∀e,lmG M e=lmG m e:=fun e=>by unfold lmG;rw[hE _ 3 (.inr (.inl rfl))]
 have J1:∀e,ltG M e=ltG m e:=fun e=>by unfold ltG;rw[hE _ 4 (.inr (.inr (.inl rfl)))]
 have hcn:∀e,cnG M e=cnG m e:=fun e=>by unfold cnG;rw[hE _ 5 (.inr (.inr (.inr (.inl rfl))))]
 have Lb0:∀l:List Nat,l.map (eb M)=l.map (eb m):=fun l=>List.map_congr_left fun e _=>heb e;have hsj:(W6 s j ⟨(s.st j).held,(s.st j).E5,l,made,O0,(s.st j).M3+1⟩).st j=⟨(s.st j).held,(s.st j).E5,l,made,O0,(s.st j).M3+1⟩:=Y0;have hsn:∀j',j'≠j->(W6 s j ⟨(s.st j).held,(s.st j).E5,l,made,O0,(s.st j).M3+1⟩).st j'=s.st j':=fun j' h=>Z0 h;have hva:va M j ((s.st j).M3+1)=a:=by unfold va;rw[hM,Gl0];rfl
 have hvc:vc M j ((s.st j).M3+1)=c:=by unfold vc;rw[hM,Se0]
 have hvo:∀j',j'<p.n->j'≠j->∀v,va M j' v=va m j' v/\vc M j' v=vc m j' v:=fun j' r9 N3 v=>by
  unfold va vc;rw[hM,ow0 m (ce0 j hj) (ce0 j' r9) (.inl N3),Ae0 m (ce0 j hj) (ce0 j' r9) (.inl N3)];exact⟨rfl,rfl⟩
 have hio:∀j',j'<p.n->j'≠j->∀v i,i<256->iaG M j' v i=iaG m j' v i/\icG M j' v i=icG m j' v i:=fun j' r9 N3 v i hi=>by
  unfold iaG icG;rw[hM,ox0 m (ce0 j hj) (ce0 j' r9) (.inl N3) hi,Af0 m (ce0 j hj) (ce0 j' r9) (.inl N3) hi];exact⟨rfl,rfl⟩
 have hii:∀i,i<O0->iaG M j ((s.st j).M3+1) i=ia i/\icG M j ((s.st j).M3+1) i=ic i:=fun i hi=>by
  unfold iaG icG;rw[hM,Gm0 m (by omega),Sf0 m (by omega)];exact⟨au1 (fl0 (hB.inn i hi)),rfl⟩
 refine⟨fun j' r9=>?_,fun j' r9=>?_,fun j' r9=>?_,fun e he=>?_,fun e e' he x9 N3=>?_,fun e j' he r9=>(by rw[J1];exact h.sep e j' he r9),fun j' r9=>?_,fun j' i r9 hi=>?_,fun e he=>by rw[hE0,hE _ 3 (.inr (.inl rfl)),hE _ 4 (.inr (.inr (.inl rfl))),hE _ 5 (.inr (.inr (.inr (.inl rfl)))),hE _ 6 (.inr (.inr (.inr (.inr rfl))))];exact h.fe e he,fun j' v r9 hv=>?_,fun b hb=>(stay b (.inr (.inr hb)) (h.off hp hx (hp.lo j hj).2 (.inr (.inl rfl)) hb)).trans (h.ro b hb)⟩
 ·have e:lkC p (W6 s j ⟨(s.st j).held,(s.st j).E5,l,made,O0,(s.st j).M3+1⟩) j'=lkC p s j':=by
   unfold lkC;by_cases hjj:j'=j
   ·subst hjj;rw[hsj]
   ·rw[hsn j' hjj]
  rw[e];exact(stay _ (SF.lk r9) (K0.ne (h.lk j' r9) hx (by decide))).trans (h.lk j' r9)
 ·unfold clC;by_cases hjj:j'=j
  ·subst hjj;rw[hsj];show K0 w' _ #[_,_,_,.slice (some ⟨va _ _ ((s.st j').M3+1),0,none⟩) O0 (vc _ _ ((s.st j').M3+1)),_,_] _;rw[hva,hvc];exact hC
  ·rw[hsn j' hjj,(hvo j' r9 hjj _).1,(hvo j' r9 hjj _).2];exact(stay _ (SF.cl r9) (h.nw1 r9 hj hjj)).trans (h.cl j' r9)
 ·by_cases hjj:j'=j
  ·subst hjj;rw[hsj];show Bk w' p.B O0 (some ⟨va _ _ ((s.st j').M3+1),0,none⟩) (vc _ _ ((s.st j').M3+1)) (at_ r.ky O0 (l.map _)) (iaG _ _ ((s.st j').M3+1)) (icG _ _ ((s.st j').M3+1));rw[hva,hvc,Lb0];exact hB.Dg0 hii
  ·rw[hsn j' hjj,(hvo j' r9 hjj _).1,(hvo j' r9 hjj _).2,Lb0];have h1:Bk w' p.B (s.st j').O0 (some ⟨va m j' (s.st j').M3,0,none⟩) (vc m j' (s.st j').M3) (at_ r.ky (s.st j').O0 ((s.st j').l.map (eb m))) (iaG m j' (s.st j').M3) (icG m j' (s.st j').M3):=by
    refine(h.bk j' r9).congr (fun _=>stay _ (SF.out r9) ?_) fun i hi ha=>stay _ (SF.inn r9 hi ha) ?_
    ·obtain⟨cur,hcc,_⟩:=(h.bk j' r9).out.row (by simp);exact K0.ne hcc hx (by decide)
    ·obtain⟨cur,hcc,_⟩:=((h.bk j' r9).inn i hi).row ha;exact K0.ne hcc hx (by decide)
   exact h1.Dg0 fun i hi=>hio j' r9 hjj _ i (Nat.lt_of_lt_of_le hi (hso j'))
 ·have hE:=h.en e he;have hE1:EnM p m w' s r e:=hE.congr fun b hb=>by
   rcases hb with rfl|rfl|rfl|rfl
   ·exact stay _ (SF.eb he) (K0.ne hE.hE hx (by decide))
   ·exact stay _ (SF.lm he) (K0.ne hE.hM hx (by decide))
   ·exact stay _ (SF.lt he) (K0.ne hE.hL hx (by decide))
   ·obtain⟨sa,hCn⟩:=hE.hC;exact stay _ (SF.cn he) (K0.ne hCn hx (by decide))
  have he9:enC (W6 s j ⟨(s.st j).held,(s.st j).E5,l,made,O0,(s.st j).M3+1⟩) M e=enC s m e:=by unfold enC;rw[hlm,hcn];rfl
  have q:∀e k,(k=0\/k=3\/k=4\/k=5\/k=6)->M (9*e+k)=m (9*e+k):=fun e k hk=>by rw[hM];exact na0 m hk
  exact⟨by rw[hE0,q _ 3 (.inr (.inl rfl)),q _ 4 (.inr (.inr (.inl rfl))),q _ 5 (.inr (.inr (.inr (.inl rfl))))];exact hE1.g,by rw[q _ 6 (.inr (.inr (.inr (.inr rfl))))];exact hE1.gn,by rw[heb];exact hE1.ky,hE1.sz,by rw[heb,hlm,J1,hcn];exact hE1.lo,by rw[heb,he9];exact hE1.hE,by rw[hlm,J1];exact hE1.hM,by rw[J1];exact hE1.hL,by rw[hcn];exact hE1.hC⟩
 ·rw[heb,heb,J1,J1,hcn,hcn];exact h.inj e e' he x9 N3
 ·by_cases hjj:j'=j
  ·subst hjj;rw[hsj];exact⟨by show M (9*(j'+64*((s.st j').M3+1))+1)≠0;rw[hM,Gl0];omega,by show M (9*(j'+64*((s.st j').M3+1))+2)≠0;rw[hM,Se0];exact hc⟩
  ·rw[hsn j' hjj,hM,ow0 m (ce0 j hj) (ce0 j' r9) (.inl hjj),Ae0 m (ce0 j hj) (ce0 j' r9) (.inl hjj)];exact h.gv j' r9
 ·by_cases hjj:j'=j
  ·subst hjj;rw[hsj]at hi⊢;have hi:i<O0:=hi;refine⟨?_,?_⟩
   ·show M (9*((j'+64*((s.st j').M3+1))*256+i)+7)≠0;rw[hM,Gm0 m (by omega)];unfold iaK;split <;> omega
   ·show M (9*((j'+64*((s.st j').M3+1))*256+i)+8)≠0;rw[hM,Sf0 m (by omega)];omega
  ·rw[hsn j' hjj]at hi⊢;have hi2:=Nat.lt_of_lt_of_le hi (hso j');rw[hM,ox0 m (ce0 j hj) (ce0 j' r9) (.inl hjj) hi2,Af0 m (ce0 j hj) (ce0 j' r9) (.inl hjj) hi2];exact h.gi j' i r9 hi
 ·have key:((s.st j').M3<v/\(j'≠j\/v≠(s.st j).M3+1)):=by
   by_cases hjj:j'=j
   ·subst hjj;rw[hsj]at hv;have hv:(s.st j').M3+1<v:=hv;exact⟨by omega,.inr (by omega)⟩
   ·rw[hsn j' hjj]at hv;exact⟨hv,.inl hjj⟩
  have h0:=h.fv j' v r9 key.1;rw[hM,ow0 m (ce0 j hj) (ce0 j' r9) key.2,Ae0 m (ce0 j hj) (ce0 j' r9) key.2];exact⟨h0.1,h0.2.1,fun i hi=>by rw[ox0 m (ce0 j hj) (ce0 j' r9) key.2 hi,Af0 m (ce0 j hj) (ce0 j' r9) key.2 hi];exact h0.2.2 i hi⟩
def db0 (s:E3) (x:Ent):E3:={s with en:=s.en ++ [x]}
theorem jd0 {x:Ent} {e:Nat} (h:e<s.en.length):gE (db0 s x) e=gE s e:=by
 unfold gE db0;simp only[List.getD_eq_getElem?_getD];rw[List.getElem?_append_left h]
theorem je0 (s:E3) (x:Ent):gE (db0 s x) s.en.length=x:=by
 unfold gE db0;simp only[List.getD_eq_getElem?_getD];rw[List.getElem?_append_right (Nat.le_refl _)];simp
theorem W3.db0 (h:W3 p m w s r) (hl:∀j e,e∈(s.st j).l->e<s.en.length) {x:Ent} {b lm lt cn:Nat} {sa:Value} (N2:x.key.size <=1000000000000) (hlo:p.B <=b/\p.B <=lm/\p.B <=lt/\p.B <=cn)
  (hE:K0 w b #[.string x.key,.int .i64 (x.num:Nat),.pointer (some ⟨lm,0,none⟩),.pointer (some ⟨cn,0,none⟩)] 127) (hM:K0 w lm #[.iface 242 (.pointer (some ⟨lt,0,none⟩))] 187)
  (hL:K0 w lt #[.int .i64 (oW p.obj 2),.int .i64 (x.num:Nat),.bool x.held,.int .i64 0] 244) (hC:K0 w cn #[.int .i64 (oW p.obj 3),.int .i64 (x.num:Nat),.pointer (some ⟨p.wb,0,none⟩),.int .i64 x.K1,sa] 191)
  (hn:¬SF p m s r b/\¬SF p m s r lt/\¬SF p m s r cn) :
  W3 p (bp0 m s.en.length b lm lt cn x.num) w (Sc.db0 s x) {r with ky:=o3 r.ky b x.key}:=by
 have hlen:(Sc.db0 s x).en.length=s.en.length+1:=by show(s.en ++ [x]).length=_;rw[List.length_append];rfl
 obtain⟨M,hM9⟩:∃M,M=bp0 m s.en.length b lm lt cn x.num:=⟨_,rfl⟩
 have N3:∀e,e≠s.en.length->eb M e=eb m e/\lmG M e=lmG m e/\ltG M e=ltG m e/\cnG M e=cnG m e:=fun e he=>by
  have h9:=lu0 m (b:=b) (lm:=lm) (lt:=lt) (cn:=cn) (nu:=x.num) he;unfold eb lmG ltG cnG;exact U513
 have heq:eb M s.en.length=b/\lmG M s.en.length=lm/\ltG M s.en.length=lt/\cnG M s.en.length=cn:=by
  have h9:=oy0 m s.en.length b lm lt cn x.num;unfold eb lmG ltG cnG;exact U513
 have Lb0:∀j,(s.st j).l.map (eb M)=(s.st j).l.map (eb m):=fun j=>List.map_congr_left fun e he=>(N3 e (Nat.ne_of_lt (hl j e he))).1;have hky:∀j b',b'∈(s.st j).l.map (eb m)->o3 r.ky b x.key b'=r.ky b':=fun j b' p7=>by
  obtain⟨e,he,rfl⟩:=List.mem_map.1 p7;exact Z0 fun z=>hn.1 (z▸SF.eb (hl j e he))
 have hg1:∀k,M (9*k+1)=m (9*k+1):=fun k=>by rw[hM9];exact nb0 _ _ _ _ _ _ _ _ 1 (.inl rfl)
 have hg2:∀k,M (9*k+2)=m (9*k+2):=fun k=>by rw[hM9];exact nb0 _ _ _ _ _ _ _ _ 2 (.inr (.inl rfl))
 have hg7:∀k,M (9*k+7)=m (9*k+7):=fun k=>by rw[hM9];exact nb0 _ _ _ _ _ _ _ _ 7 (.inr (.inr (.inl rfl)))
 have hg8:∀k,M (9*k+8)=m (9*k+8):=fun k=>by rw[hM9];exact nb0 _ _ _ _ _ _ _ _ 8 (.inr (.inr (.inr rfl)))
 have hia:∀j v,iaG M j v=iaG m j v/\icG M j v=icG m j v:=fun j v=>⟨funext fun i=>by unfold iaG;rw[hg7],funext fun i=>by unfold icG;rw[hg8]⟩
 have hva:∀j v,va M j v=va m j v/\vc M j v=vc m j v:=fun j v=>by unfold va vc;rw[hg1,hg2];exact⟨rfl,rfl⟩
 rw[<- hM9];refine⟨h.lk,fun j hj=>?_,fun j hj=>?_,fun e he=>?_,fun e e' he x9 hee=>?_,fun e j he hj=>?_,fun j hj=>by rw[hg1,hg2];exact h.gv j hj,fun j i hj hi=>by rw[hg7,hg8];exact h.gi j i hj hi,fun e he=>?_,fun j v hj hv=>by rw[hg1,hg2];exact⟨(h.fv j v hj hv).1,(h.fv j v hj hv).2.1,fun i hi=>by rw[hg7,hg8];exact(h.fv j v hj hv).2.2 i hi⟩,h.ro⟩
 ·unfold clC;rw[(hva _ _).1,(hva _ _).2];exact h.cl j hj
 ·show Bk w p.B (s.st j).O0 _ _ (at_ (o3 r.ky b x.key) (s.st j).O0 ((s.st j).l.map _)) _ _;have hI:=hia j (s.st j).M3;show Bk w p.B (s.st j).O0 _ _ (at_ (o3 r.ky b x.key) (s.st j).O0 ((s.st j).l.map _)) (iaG M j (s.st j).M3) (icG M j (s.st j).M3);rw[(hva _ _).1,(hva _ _).2,Lb0,lv0 (hky j),hI.1,hI.2];exact h.bk j hj
 ·rw[hlen]at he;by_cases hen:e=s.en.length
  ·subst hen;obtain⟨q1,q2,q3,q4⟩:=heq;have h9:=oy0 m s.en.length b lm lt cn x.num;refine⟨by rw[hM9,h9.1,h9.2.1,h9.2.2.1,h9.2.2.2.1];omega,by rw[hM9,h9.2.2.2.2,je0],?_,?_,?_,?_,?_,?_,⟨sa,?_⟩⟩
   ·rw[q1,je0];exact Y0
   ·rw[je0];exact N2
   ·rw[q1,q2,q3,q4];exact hlo
   ·unfold enC;rw[q1,q2,q4,je0];exact hE
   ·rw[q2,q3];exact hM
   ·unfold ltC;rw[q3,je0];exact hL
   ·unfold cnC;rw[q4,je0];exact hC
  ·have x9:e<s.en.length:=by omega
   have hE':=h.en e x9;obtain⟨q1,q2,q3,q4⟩:=N3 e hen;have h9:=lu0 m (b:=b) (lm:=lm) (lt:=lt) (cn:=cn) (nu:=x.num) hen;refine⟨by rw[hM9,h9.1,h9.2.1,h9.2.2.1,h9.2.2.2.1];exact hE'.g,by rw[hM9,h9.2.2.2.2,jd0 x9];exact hE'.gn,?_,by rw[jd0 x9];exact hE'.sz,?_,?_,?_,?_,?_⟩
   ·rw[q1,jd0 x9,<- hE'.ky];exact Z0 fun z=>hn.1 (z▸SF.eb x9)
   ·rw[q1,q2,q3,q4];exact hE'.lo
   ·unfold enC;rw[q1,q2,q4,jd0 x9];exact hE'.hE
   ·rw[q2,q3];exact hE'.hM
   ·unfold ltC;rw[q3,jd0 x9];exact hE'.hL
   ·unfold cnC;rw[q4,jd0 x9];exact hE'.hC
 ·rw[hlen]at he x9;by_cases h1:e=s.en.length
  ·subst h1;have h2:e'<s.en.length:=by omega
   obtain⟨q1,q2,q3,q4⟩:=heq;obtain⟨u1,u2,u3,u4⟩:=N3 e' (Ne.symm hee);rw[q1,q3,q4,u1,u3,u4];exact⟨fun z=>hn.1 (z▸SF.eb h2),fun z=>hn.2.1 (z▸SF.lt h2),fun z=>hn.2.2 (z▸SF.cn h2)⟩
  ·have h1':e<s.en.length:=by omega
   obtain⟨u1,u2,u3,u4⟩:=N3 e h1;by_cases h2:e'=s.en.length
   ·subst h2;obtain⟨q1,q2,q3,q4⟩:=heq;rw[q1,q3,q4,u1,u3,u4];exact⟨fun z=>hn.1 (z▸SF.eb h1'),fun z=>hn.2.1 (z▸SF.lt h1'),fun z=>hn.2.2 (z▸SF.cn h1')⟩
   ·obtain⟨q1,q2,q3,q4⟩:=N3 e' h2;rw[q1,q3,q4,u1,u3,u4];exact h.inj e e' h1' (by omega) hee
 ·rw[hlen]at he;by_cases h1:e=s.en.length
  ·subst h1;rw[heq.2.2.1];exact fun z=>hn.2.1 (z▸SF.lk hj)
  ·rw[(N3 e h1).2.2.1];exact h.sep e j (by omega) hj
 ·rw[hlen]at he;have h9:=lu0 m (b:=b) (lm:=lm) (lt:=lt) (cn:=cn) (nu:=x.num) (e:=s.en.length) (e':=e) (by omega);rw[hM9,h9.1,h9.2.1,h9.2.2.1,h9.2.2.2.1,h9.2.2.2.2];exact h.fe e (by omega)
end
end Go.Vy.Sc
end
section
namespace Go.Vy
open Go Go.Conc Go.Yc Go.RowKit
open Go.Vc Go.Wg
def Ag0 (P:Program) (fr:Frame) (w:World):Ending->Prop
 | .returned v=>fr.mode= .returning/\fr.defers=[]/\fr.kind= .deferred/\∃fn,P.funcs[fr.fn]? =some fn/\aw0 P fn fr.tmps w v
 | .panicked chain=>fr.mode= .panicking chain/\fr.defers=[]/\fr.catches P=false
 | .outgrown=>False
def CallsD (P:Program) [Ctx P] (f:FuncId) (args:Array Value) (w:World) (R:Ending->World->Prop):Prop :=
 ∀Z,Ctx.Zs P Z->∀cs,(∀e w' fr,R e w'->fr.fn=f->Ag0 P fr w' e->Z (G fr cs) w')->Z (G (Frame.enter P f args .deferred) cs) w
theorem CallsD.mono {P:Program} [Ctx P] {f:FuncId} {args:Array Value} {w:World} {R R':Ending->World->Prop} (h:CallsD P f args w R) (hr:∀e w',R e w'->R' e w'):CallsD P f args w R' :=
 fun Z hZ cs hk=>h Z hZ cs fun e w' fr he hf hl=>hk e w' fr (hr e w' he) hf hl
section
variable {P:Program}[Ctx P]
theorem callsD_of_wp {f:FuncId} {fn:Func} {c:Code} {args:Array Value} {w:World} {R:Ending->World->Prop} (hf:P.funcs[f]? =some fn) (hb:fn.body=some c)
  (h:cwp P c (bodyPost P fn R) {tmps:=args++Array.replicate (fn.ntmps-args.size) undef,defers:=[]} w):CallsD P f args w R:=by
 intro Z hZ cs hk;rw[enter_atD args hf hb];refine h Z hZ (baseD f) [] cs (bkd f) fun e a' w' he=>?_;have bw0:∀a' w' todo,(a'.defers=[]/\∃v,aw0 P fn a'.tmps w' v/\R (.returned v) w')->Z (G {(baseD f).at a' todo with mode:=.returning} cs) w':=fun a' w' todo ⟨hd,v,hr,hR⟩=>
  hk _ _ _ hR rfl ⟨rfl,hd,rfl,fn,hf,hr⟩
 cases e with
 |normal=>exact(Ctx.cl Z hZ).ctl rfl rfl (fun _=>stepG_end) (bw0 a' w' [] he)
 |ret=>exact fun todo=>bw0 a' w' todo he
 |panic chain=>exact fun todo=>hk _ _ _ he.2 rfl ⟨rfl,he.1,by simp[Frame.catches,Frame.at,baseD,hf]⟩
 |exit id=>exact he.elim
 |goto l=>exact he.elim
 |outgrown=>exact he.elim
theorem CallsD.n6 {f:FuncId} {fn:Func} {c:Code} {args:Array Value} {w:World} {R:Ending->World->Prop} {n:Nat} (hf:P.funcs[f]? =some fn) (hb:fn.body=some c) (hn:args.size+(fn.ntmps-args.size)=n)
  (h:W P n c (ao1 P fn R) (Vc.bq0 args) w):CallsD P f args w R:=by
 refine callsD_of_wp hf hb (wp_mono (h _ ⟨?_,rfl,?_⟩) ?_)
 ·simp[hn]
 ·intro t;simp only[Vc.bq0,Array.getD_eq_getD_getElem?,Array.getElem?_append];split
  ·rfl
  ·rename_i ht;rw[Array.getElem?_eq_none (by omega:args.size <=t)];simp only[Array.getElem?_replicate];split <;> rfl
 ·rintro x a w' ⟨e',r,hx⟩;cases x with
  |panic ch=>exact⟨r.defers,hx⟩
  |normal=>obtain⟨_,v,hv,hR⟩:=hx;exact⟨r.defers,v,hv a.tmps r.get,hR⟩
  |ret=>obtain⟨_,v,hv,hR⟩:=hx;exact⟨r.defers,v,hv a.tmps r.get,hR⟩
  |exit id=>obtain⟨hx,_⟩:=hx;rcases hx with hx|hx <;> cases hx
  |goto l=>obtain⟨hx,_⟩:=hx;rcases hx with hx|hx <;> cases hx
  |outgrown=>obtain⟨hx,_⟩:=hx;rcases hx with hx|hx <;> cases hx
end
def Xf0 (m:FrameMode):Prop:=m= .returning\/∃v H4,m= .panicking ({v,recovered:=false} :: H4)
theorem he0 {P:Program} {main:Bool} {Z:Goroutine->World->Prop} (hZ:Cl P main Z) {fr c:Frame} {cs:List Frame} {w:World} {v:Value} (h:Ag0 P fr w (.returned v)) (hc:Xf0 c.mode) (hk:Z (G c cs) w):Z (G fr (c::cs)) w:=by
 obtain⟨hm,hd,hn,fn,hf,hr⟩:=h;refine hZ.own _ _ rfl fun τ d=>⟨G c cs,V2 w τ d,w.drawn,⟨rfl,fun ρ x hx=>?_⟩,hk⟩
 obtain⟨x',es,K3,V5,hev⟩:=hr τ d ρ x hx;rw[Sem.runT_eq]at K3;obtain⟨h1,h2⟩:=Prod.mk.inj K3;refine⟨Evo.refl _,x',seen P fr.fn es ++ #[],?_,V5,fun e he=>?_⟩
 ·rcases hc with hc|⟨v',H4,hc⟩
  ·simp[G,stepG,unwind,doReturn,hm,hd,hn,hf,h1,h2,hc,GStep.after]
  ·simp[G,stepG,unwind,doReturn,hm,hd,hn,hf,h1,h2,hc,GStep.after]
 ·have x9:e∈seen P fr.fn es:=by simpa using he
  exact hev e (mem_seen x9)
theorem hh0 {P:Program} {main:Bool} {Z:Goroutine->World->Prop} (hZ:Cl P main Z) {fr c:Frame} {cs:List Frame} {w:World} {chain:List PanicEntry} (h:Ag0 P fr w (.panicked chain)) (hk:Z (G (c.raise chain) cs) w):Z (G fr (c::cs)) w:=by
 obtain⟨hm,hd,hc⟩:=h;exact hZ.ctl rfl rfl (fun w=>by simp[G,stepG,unwind,hm,hd,hc]) hk
def ZP [B4] (Z:Goroutine->World->Prop) (n:Nat) (b:Frame) (cs:List Frame) (ch:List PanicEntry) (e:Env) (w:World):Prop:=∀todo,∀a,Rep n a e->Z (G {b.at a todo with mode:=.panicking ch} cs) w
def sw1 [B4] (Z:Goroutine->World->Prop) (n:Nat) (b:Frame) (cs:List Frame) (k:List Item):Exit->Env->World->Prop
 | .normal,e,w=>ZA Z n b cs e k w
 | .ret,e,w=>ZR Z n b cs e w
 | .panic ch,e,w=>ZP Z n b cs ch e w
 |_,_,_=>False
section
variable {P:Program}[Ctx P]{Z:Goroutine->World->Prop}{b:Frame}{k:List Item}{cs:List Frame}{n:Nat}{e:Env}{w:World}
theorem ZA.code [B4] (hZ:Ctx.Zs P Z) (hb:b.kind≠.early) {c:Code} (h:Vy.W P n c (sw1 Z n b cs k) e w):ZA Z n b cs e (.code c::k) w:=by
 intro a ha;refine h a ha Z hZ b k cs hb fun x a' w' hx=>?_;obtain⟨e',r,hq⟩:=hx;cases x with
 |normal=>exact hq a' r
 |ret=>exact fun todo=>hq todo a' r
 |panic ch=>exact fun todo=>hq todo a' r
 |exit _=>exact hq.elim
 |goto _=>exact hq.elim
 |outgrown=>exact hq.elim
end
section
variable {P:Program}{b:Frame}{k:List Item}{cs:List Frame}{ops:Array Oper}
theorem Dh0 {main:Bool} {a:Act} {w:World} {i:Nat} {rest:List Nat} {dst:Option Nat} {ty:TypeId} {ps:String} {af:Array Edge} {x:Operand} {asx:Array Operand} {ats:Array TypeId} {vs bs caps:Array Value} {f:FuncId} (ho:ops[i]? =some ⟨dst,.defer {callee:=.value x,args:=asx,argTypes:=ats},ty,ps,af,none⟩) (hk:b.kind≠.early) (hro:b.roundOf=none) (hx:a.eval x= .func (.func f) bs caps) (hv:asx.map a.eval=vs) :
  stepG P main (G (b.at a (.inRegion ops (i::rest)::k)) cs) w= .go (G (b.at (Act.put ⟨a.tmps,{target:=.fn (.func f) caps,args:=bs++vs} :: a.defers⟩ dst undef) (.inRegion ops rest::k)) cs) w #[]:=by
 have hr:(execOp a.eval ⟨dst,.defer {callee:=.value x,args:=asx,argTypes:=ats},ty,ps,af,none⟩).run P w= .ok (.defer {target:=.fn (.func f) caps,args:=bs++vs}) w:=by
  simp[execOp,resolve,Deferred.ofValue,hx,hv]
 have he:(execOp a.eval ⟨dst,.defer {callee:=.value x,args:=asx,argTypes:=ats},ty,ps,af,none⟩).events P w #[]=#[]:=by
  simp[execOp,resolve,Deferred.ofValue,hx,hv]
 have dd0:(b.at ⟨a.tmps,{target:=.fn (.func f) caps,args:=bs++vs} :: a.defers⟩ (.inRegion ops (i::rest)::k)).finish undef=b.at (Act.put ⟨a.tmps,{target:=.fn (.func f) caps,args:=bs++vs} :: a.defers⟩ dst undef) (.inRegion ops rest::k):=by rw[Frame.finish_at,ho];rfl
 have hk':(b.kind==CallKind.early)=false:=by simpa using hk
 have _hro:=hro;rw[stepG_oper ho rfl,<- dd0];simp[stepG.apply,hr,he,G,Frame.at,hk',GStep.after,seen_none]
end
section
variable {P:Program}[Ctx P]{Z:Goroutine->World->Prop}{b:Frame}{k:List Item}{cs:List Frame}{n:Nat}{e:Env}{w:World}{ops:Array Oper}
@[reducible] def _root_.Go.Vc.B4.push (D:B4) (d:Deferred):B4:=⟨d::D.ds⟩
theorem ZA.fj1 {D:B4} (hZ:Ctx.Zs P Z) (hb:b.kind≠.early) (hro:b.roundOf=none) {i:Nat} {rest:List Nat} {ty:TypeId} {ps:String} {af:Array Edge} {x:Operand} {asx:Array Operand} {ats:Array TypeId} {vs bs caps:Array Value} {f:FuncId} (ho:ops[i]? =some ⟨none,.defer {callee:=.value x,args:=asx,argTypes:=ats},ty,ps,af,none⟩) (hx:ev e x= .func (.func f) bs caps) (hv:asx.map (ev e)=vs)
  (h:@ZA (D.push {target:=.fn (.func f) caps,args:=bs++vs}) Z n b cs e (.inRegion ops rest::k) w):@ZA D Z n b cs e (.inRegion ops (i::rest)::k) w:=by
 intro a ha;refine(Ctx.cl Z hZ).ctl rfl rfl (fun w=>Dh0 (f:=f) (bs:=bs) (caps:=caps) (vs:=vs) ho hb hro (ha.eval▸hx) (ha.eval▸hv)) ?_;obtain⟨h1,h2,h3⟩:=ha;have h2:a.defers=D.ds:=h2;refine h (Act.put ⟨a.tmps,{target:=.fn (.func f) caps,args:=bs++vs} :: a.defers⟩ none undef) (@Rep.mk (D.push _) n _ e h1 ?_ h3);show _::a.defers=_::D.ds;rw[h2]
end
section
variable {P:Program}[Ctx P]{Z:Goroutine->World->Prop}{b:Frame}{cs:List Frame}{n:Nat}{e:Env}{w:World}{f:FuncId}{fn:Func}{caps vs:Array Value}{R:Ending->World->Prop}{body:Code}{ch:List PanicEntry}
theorem ZR.defer {D:B4} (hZ:Ctx.Zs P Z) (hf:P.funcs[f]? =some fn) (D4:(fn.name== "runtime.NumGoroutine")=false) (hbd:fn.body=some body) (hc:CallsD P f (vs++caps) w R) (hr:∀v w',R (.returned v) w'->@ZR D Z n b cs e w') (hp:∀ch w',R (.panicked ch) w'->@ZP D Z n b cs ch e w') (ho:∀w',¬R .outgrown w') :
  @ZR (D.push {target:=.fn (.func f) caps,args:=vs}) Z n b cs e w:=by
 intro todo a ha;obtain⟨h1,h2,h3⟩:=ha;have h2:a.defers={target:=.fn (.func f) caps,args:=vs} :: D.ds:=h2;refine(Ctx.cl Z hZ).ctl rfl rfl (fun w=>ea0 (f:=f) (fn:=fn) (caps:=caps) (args:=vs) (ds:=D.ds) (md:=.returning) (by simp) h2 hf D4 hbd) ?_;rw[<- enter_atD (vs++caps) hf hbd];refine hc Z hZ _ fun x w' fr hx _ hl=>?_;have ha':@Rep D n ⟨a.tmps,D.ds⟩ e:=⟨h1,rfl,h3⟩
 cases x with
 |returned v=>exact he0 (Ctx.cl Z hZ) hl (.inl rfl) (hr v w' hx todo _ ha')
 |panicked ch=>exact hh0 (Ctx.cl Z hZ) hl (hp ch w' hx todo _ ha')
 |outgrown=>exact absurd hx (ho _)
theorem ZP.defer {D:B4} (hZ:Ctx.Zs P Z) (hf:P.funcs[f]? =some fn) (D4:(fn.name== "runtime.NumGoroutine")=false) (hbd:fn.body=some body) (l7:m6 ch) (hc:CallsD P f (vs++caps) w R) (hr:∀v w',R (.returned v) w'->@ZP D Z n b cs ch e w') (hp:∀ch' w',R (.panicked ch') w'->@ZP D Z n b cs (ch'++ch) e w') (ho:∀w',¬R .outgrown w') :
  @ZP (D.push {target:=.fn (.func f) caps,args:=vs}) Z n b cs ch e w:=by
 intro todo a ha;obtain⟨h1,h2,h3⟩:=ha;have h2:a.defers={target:=.fn (.func f) caps,args:=vs} :: D.ds:=h2;refine(Ctx.cl Z hZ).ctl rfl rfl (fun w=>ea0 (f:=f) (fn:=fn) (caps:=caps) (args:=vs) (ds:=D.ds) (md:=.panicking ch) (by simp) h2 hf D4 hbd) ?_;rw[<- enter_atD (vs++caps) hf hbd];refine hc Z hZ _ fun x w' fr hx _ hl=>?_;have ha':@Rep D n ⟨a.tmps,D.ds⟩ e:=⟨h1,rfl,h3⟩
 cases x with
 |returned v=>
  obtain⟨v0,H4,rfl,_⟩:=l7;exact he0 (Ctx.cl Z hZ) hl (.inr ⟨v0,H4,rfl⟩) (hr v w' hx todo _ ha')
 |panicked ch'=>exact hh0 (Ctx.cl Z hZ) hl (hp ch' w' hx todo _ ha')
 |outgrown=>exact absurd hx (ho _)
end
section
variable {P:Program}{Z:Goroutine->World->Prop}{b:Frame}{cs:List Frame}{n:Nat}{e:Env}{w:World}{f:FuncId}{fn:Func}{R:Ending->World->Prop}{ch:List PanicEntry}
theorem ZR.leave (hb:b=base f) (hf:P.funcs[f]? =some fn) (hk:∀x w' fr,R x w'->fr.fn=f->Leaves P fr w' x->Z (G fr cs) w') (h:ends P fn (fun v w=>R (.returned v) w) .ret e w):ZR Z n b cs e w:=by
 intro todo a ha;subst hb;obtain⟨_,v,hv,hR⟩:=h;exact hk _ _ _ hR rfl ⟨rfl,ha.defers,rfl,fn,hf,hv a.tmps ha.get⟩
theorem ZP.leave (hb:b=base f) (hf:P.funcs[f]? =some fn) (hk:∀x w' fr,R x w'->fr.fn=f->Leaves P fr w' x->Z (G fr cs) w') (h:R (.panicked ch) w):ZP Z n b cs ch e w:=by
 intro todo a ha;subst hb;exact hk _ _ _ h rfl ⟨rfl,ha.defers,by simp[Frame.catches,Frame.at,base,hf]⟩
end
section
variable {P:Program}[Ctx P]{Z:Goroutine->World->Prop}{cs:List Frame}{n:Nat}{w:World}{f:FuncId}{fn:Func}{R:Ending->World->Prop}{body:Code}
theorem B8 {c:Code} {args:Array Value} {n:Nat} (hf:P.funcs[f]? =some fn) (hb:fn.body=some c) (hn:args.size+(fn.ntmps-args.size)=n)
  (h:∀Z,Ctx.Zs P Z->∀cs,(∀x w' fr,R x w'->fr.fn=f->Leaves P fr w' x->Z (G fr cs) w')->ZA Z n (base f) cs (Vc.bq0 args) [.code c] w):Calls P f args w R:=by
 intro Z hZ cs hk;rw[enter_at args hf hb];exact h Z hZ cs hk _ (p8 args _ hn)
end
theorem m6.app {ch ch':List PanicEntry} (h:m6 ch) (h':m6 ch'):m6 (ch'++ch):=by
 obtain⟨v,H4,rfl,ho⟩:=h;obtain⟨v',fk1,rfl,ho'⟩:=h';refine⟨v',fk1 ++ {v,recovered:=false} :: H4,rfl,?_⟩;have:∀l:List PanicEntry,l.dropWhile (!·.goexit)=[]->∀l2:List PanicEntry,l2.dropWhile (!·.goexit)=[]->(l++l2).dropWhile (!·.goexit)=[]:=by
  intro l h l2 h2;rw[List.dropWhile_append,h];simpa using h2
 exact this _ ho' _ (by simpa [List.dropWhile]using ho)
end Go.Vy
end
section
namespace Go.Vy.Sc
open Go Go.Conc Go.Yc Go.RowKit Go.Proofs Go.Proofs.YtinppmaojmdmhaaGreat Tryz
open Go.Vc Go.Wg
def bv0 (w0:World):Ending->World->Prop
 | .panicked ch,u=>m6 ch/\io0 w0 u/\u.tape=w0.tape
 |_,_=>False
theorem io0.trans {w w1 w2:World} (h:io0 w w1) (h':io0 w1 w2):io0 w w2:=⟨h'.os.trans h.os,h'.output.trans h.output,Nat.le_trans h.size h'.size,fun b hb=>(h'.block b (Nat.lt_of_lt_of_le hb h.size)).trans (h.block b hb)⟩
theorem io0.of {w w':World} (h:Below w.heap.size w w'):io0 w w':=⟨h.os,h.output,h.size,h.block⟩
theorem bv0.down {w0 w u:World} {e:Ending} (hb:Below w0.heap.size w0 w) (h:bv0 w e u):bv0 w0 e u:=by
 cases e with
 |panicked ch=>exact⟨h.1,io0.trans (io0.of hb) h.2.1,h.2.2.trans hb.tape⟩
 |returned v=>exact h.elim
 |outgrown=>exact h.elim
theorem K8.grow {K:Y9 prog} (hK:KOk K) {w0 u u':World} (h:K8 K w0 u) (hg:io0 u u') (ht:u'.tape=u.tape):K8 K w0 u':=by
 obtain⟨F',hi⟩:=h.inv;refine⟨by rw[J3 ht];exact h.g2,⟨F',?_⟩,hg.os.trans h.os,hg.output.trans h.output⟩;rw[J3 ht,ca0 ht];exact hK.loc _ _ _ _ _ hi fun b hb=>hg.block b (hK.vis _ _ _ _ hi b hb).1
theorem Xg0 (x0:Int) (x1:Int) (x2:Int):prog.built 65 [(0,.int .i64 x0),(1,.int .i64 x1),(2,.int .i64 x2)]=some #[.int .i64 x0,.int .i64 x1,.int .i64 x2]:=by kernel_rfl
theorem Di0 {K:Y9 prog} (hK:KOk K) {o n ki:Int} {rd df:Value} (w0:World) (h2:gh w0 2=1) :
  @Calls prog (I0 K) 70 #[.agg #[.int .i64 o,.int .i64 n],.pointer (some ⟨K.ptr,0,none⟩),.int .i64 ki,rd,df] w0 (bv0 w0):=by
 letI:Ctx prog:=I0 K;refine Calls.n6 (n:=20) func70 rfl rfl ?_;refine U1 ?_;intro hb;refine L.box (cs:=#[.int .i64 o,.int .i64 n]) rfl rfl (fun w b5 F5=>?_);refine U37 ?_;intro lt5 hb;have I2:=F5.blk;refine U46 ?_;refine U292 ?_;refine L.va (A0 rfl underlying3 rfl (I2.q0 0 (v:=.int .i64 o) rfl)) ?_;refine L.va (B0 rfl underlying162 rfl sz3 (by decide)) ?_;refine L.va (A0 rfl underlying3 rfl (I2.q0 1 (v:=.int .i64 n) rfl)) ?_;refine L.va (G2 (parts:=[(0,.tmp 11),(1,.tmp 13),(2,.tmp 15)]) rfl (Xg0 ki o n)) ?_;refine U211 ?_;refine L.Y2 rfl (fz0 rfl rfl rfl rfl func126 rfl Or0 rfl) (hK.step▸(@Calls.mono _ (I0 K) _ _ _ _ (bv0 w) (Fc0 (K:=K) (w:=w) ((J3 hb.tape 2).trans h2) ⟨⟨ki,o,n⟩,rfl⟩) (fun e u he=>by cases e <;> exact he))) ?_ ?_ (fun _ h=>h)
 ·rintro v u hx;exact hx.elim
 ·rintro ch u hx;exact bv0.down (e:=.panicked ch) hb hx
theorem Gp0 {K:Y9 prog} (hK:KOk K) (sb:Nat) (obj num:Int) (h:Bool) (r:Int) (w0:World) (h2:gh w0 2=1) (hC:K0 w0 sb #[.int .i64 obj,.int .i64 num,.bool h,.int .i64 r] 244) :
  @Calls prog (I0 K) 209 #[.pointer (some ⟨sb,0,none⟩),.pointer (some ⟨K.ptr,0,none⟩)] w0 (bv0 w0):=by
 letI:Ctx prog:=I0 K;refine Calls.n6 (n:=11) func209 rfl rfl ?_;refine U84 ?_;intro hb w b2 F2;refine U104 ?_;intro lt2 hb hC A2;refine U102 ?_;refine U114 ?_;refine L.Y2 rfl (V7 rfl rfl rfl rfl rfl func70 rfl oi0 rfl) (Di0 hK w ((J3 hb.tape 2).trans h2)) ?_ ?_ (fun _ h=>h)
 ·rintro v u hx;exact hx.elim
 ·rintro ch u hx;exact bv0.down (e:=.panicked ch) hb hx
theorem Dj0 {K:Y9 prog} (hK:KOk K) (sb:Nat) (obj num:Int) (h:Bool) (r:Int) (mb:Nat) (w0:World) (h2:gh w0 2=1) (hM:K0 w0 mb #[.iface 242 (.pointer (some ⟨sb,0,none⟩))] 160) (hC:K0 w0 sb #[.int .i64 obj,.int .i64 num,.bool h,.int .i64 r] 244) :
  @CallsD prog (I0 K) 53 #[.pointer (some ⟨mb,0,none⟩),.pointer (some ⟨K.ptr,0,none⟩)] w0 (bv0 w0):=by
 letI:Ctx prog:=I0 K;refine CallsD.n6 (n:=12) func53 rfl rfl ?_;refine U1 ?_;intro hb;refine U103 ?_;refine L.Y2 rfl (K9 rfl rfl mt0 kg0 func209 rfl Ou0) (Gp0 hK sb obj num h r _ h2 hC) ?_ ?_ (fun _ h=>h)
 ·rintro v u hx;exact hx.elim
 ·rintro ch u hx;exact hx
theorem Gq0 {K:Y9 prog} (hK:KOk K) {L3:K.L} {m:Gm} {F:Nat->Prop} (sb:Nat) (obj num:Int) (h:Bool) (r:Int) (mb:Nat) (w0:World) (hT:K.Told w0 m F (.inl L3)) (S2:K.stp L3=⟨2,obj,num⟩) (hrd:∀s,K.rdy L3 s=true) (hM:K0 w0 mb #[.iface 242 (.pointer (some ⟨sb,0,none⟩))] 160) (hC:K0 w0 sb #[.int .i64 obj,.int .i64 num,.bool h,.int .i64 r] 244) (hla:∀u F',K.y6 w0 m F u F'->∃h r,K0 u sb #[.int .i64 obj,.int .i64 num,.bool h,.int .i64 r] 244) :
  @CallsD prog (I0 K) 53 #[.pointer (some ⟨mb,0,none⟩),.pointer (some ⟨K.ptr,0,none⟩)] w0 (A3 K w0 fun v u=>v= .tuple #[]/\∃u0 F' h r,Gn K w0 m F L3 u0 F'/\K0 u0 sb #[.int .i64 obj,.int .i64 num,.bool h,.int .i64 r] 244/\K0 u sb #[.int .i64 obj,.int .i64 num,.bool false,.int .i64 r] 244/\u0.grownBy u (some sb)/\u.tape=u0.tape):=by
 letI:Ctx prog:=I0 K;refine CallsD.n6 (n:=12) func53 rfl rfl ?_;refine U1 ?_;intro hb;refine U103 ?_;have hbL:=hb;refine L.Y2 rfl (K9 rfl rfl mt0 kg0 func209 rfl Ou0) (xx0 hK sb obj num h r w0 hT S2 hrd hC hla) ?_ ?_ (fun _ h=>h)
 ·rintro v u bw0;obtain⟨rfl,bw0⟩:=bw0;exact U93
 ·rintro ch u ⟨l7,hh⟩;exact⟨l7,hh⟩
theorem Dk0 {K:Y9 prog} (hK:KOk K) (sb:Nat) (obj num:Int) (h:Bool) (r:Int) (w0:World) (h2:gh w0 2=1) (hC:K0 w0 sb #[.int .i64 obj,.int .i64 num,.bool h,.int .i64 r] 244) :
  @Calls prog (I0 K) 208 #[.pointer (some ⟨sb,0,none⟩),.pointer (some ⟨K.ptr,0,none⟩)] w0 (bv0 w0):=by
 letI:Ctx prog:=I0 K;refine Calls.n6 (n:=11) func208 rfl rfl ?_;refine U84 ?_;intro hb w b2 F2;refine U104 ?_;intro lt2 hb hC A2;refine U102 ?_;refine U114 ?_;refine L.Y2 rfl (V7 rfl rfl rfl rfl rfl func70 rfl oi0 rfl) (Di0 hK w ((J3 hb.tape 2).trans h2)) ?_ ?_ (fun _ h=>h)
 ·rintro v u hx;exact hx.elim
 ·rintro ch u hx;exact bv0.down (e:=.panicked ch) hb hx
theorem Ah0 {K:Y9 prog} (hK:KOk K) (sb:Nat) (obj num:Int) (h:Bool) (r:Int) (mb:Nat) (w0:World) (h2:gh w0 2=1) (hM:K0 w0 mb #[.iface 242 (.pointer (some ⟨sb,0,none⟩))] 160) (hC:K0 w0 sb #[.int .i64 obj,.int .i64 num,.bool h,.int .i64 r] 244) :
  @CallsD prog (I0 K) 103 #[.pointer (some ⟨mb,0,none⟩),.pointer (some ⟨K.ptr,0,none⟩)] w0 (bv0 w0):=by
 letI:Ctx prog:=I0 K;refine CallsD.n6 (n:=12) func103 rfl rfl ?_;refine U1 ?_;intro hb;refine U103 ?_;refine L.Y2 rfl (K9 rfl rfl qt0 oc0 func208 rfl Zu0) (Dk0 hK sb obj num h r _ h2 hC) ?_ ?_ (fun _ h=>h)
 ·rintro v u hx;exact hx.elim
 ·rintro ch u hx;exact hx
theorem Dl0 {K:Y9 prog} (hK:KOk K) {L3:K.L} {m:Gm} {F:Nat->Prop} (sb:Nat) (obj num:Int) (h:Bool) (r:Int) (mb:Nat) (w0:World) (hT:K.Told w0 m F (.inl L3)) (S2:K.stp L3=⟨4,obj,num⟩) (hrd:∀s,K.rdy L3 s=true) (hM:K0 w0 mb #[.iface 242 (.pointer (some ⟨sb,0,none⟩))] 160) (hC:K0 w0 sb #[.int .i64 obj,.int .i64 num,.bool h,.int .i64 r] 244) (hla:∀u F',K.y6 w0 m F u F'->∃h r,K0 u sb #[.int .i64 obj,.int .i64 num,.bool h,.int .i64 r] 244) :
  @CallsD prog (I0 K) 103 #[.pointer (some ⟨mb,0,none⟩),.pointer (some ⟨K.ptr,0,none⟩)] w0 (A3 K w0 fun v u=>v= .tuple #[]/\∃u0 F' h r,Gn K w0 m F L3 u0 F'/\K0 u0 sb #[.int .i64 obj,.int .i64 num,.bool h,.int .i64 r] 244/\K0 u sb #[.int .i64 obj,.int .i64 num,.bool h,.int .i64 (max 0 (IntKind.i64.wrap (r-1)))] 244/\u0.grownBy u (some sb)/\u.tape=u0.tape):=by
 letI:Ctx prog:=I0 K;refine CallsD.n6 (n:=12) func103 rfl rfl ?_;refine U1 ?_;intro hb;refine U103 ?_;have hbL:=hb;refine L.Y2 rfl (K9 rfl rfl qt0 oc0 func208 rfl Zu0) (Fv0 hK sb obj num h r w0 hT S2 hrd hC hla) ?_ ?_ (fun _ h=>h)
 ·rintro v u bw0;obtain⟨rfl,bw0⟩:=bw0;exact U93
 ·rintro ch u ⟨l7,hh⟩;exact⟨l7,hh⟩
structure Gr0 (K:Y9 prog) (w:World) (o:k6 K.S K.L) (k:Nat):Prop where
 on:gh w 2=0
 nts:gh w 1=k
 out:K.out (gh w 0)=o
 os:w.os=K.base.os
 output:w.output=K.base.output
theorem Gr0.to {K:Y9 prog} {w w':World} {o:k6 K.S K.L} {k:Nat} (h:Gr0 K w o k) (ht:w'.tape=w.tape) (ho:w'.os=w.os) (ho2:w'.output=w.output):Gr0 K w' o k :=
 ⟨by rw[J3 ht];exact h.on,by rw[J3 ht];exact h.nts,by rw[J3 ht];exact h.out,ho.trans h.os,ho2.trans h.output⟩
theorem Gr0.iq0 {K:Y9 prog} {w:World} {o:k6 K.S K.L} {k:Nat} {F:Nat->Prop} {m:Gm} {f:K.L ⊕ Nat} (h:Gr0 K w o k) (hk:k=o.nts.length) (hf:o.N1=f) (hm:K.gu (gm w) m) (hi:K.Inv o.s m w F):K.Told w m F f :=
 ⟨h.on,by rw[h.out];exact hf,by rw[h.nts,h.out];exact hk,by rw[h.out];exact hi,hm,h.os,h.output⟩
theorem Hn0 {Y:Sys}:∀q,Y.Reach q->q.ft.length <=Y.m :=
 Sys.ind (fun q=>q.ft.length <=Y.m) (Nat.zero_le _) (fun q _ hl=>by
  show(Y.bgn q).ft.length <=_;unfold Sys.bgn;split <;> simp <;> omega) fun q i l hq _ _ _=>by rw[Sys.Cc0];exact hq
noncomputable abbrev B3 (p:W4) (fb:Nat->FuncId) (q:PR (S0 p)) (L2:World) (i cb:Nat) (top:List Frame):Y9 prog:=(S0 p).cfg fb q L2 i cb top
abbrev ue0 (p:W4):Nat->Nat:=fun i=>(p.bo i).length
structure SAt (p:W4) (fb:Nat->FuncId) (q:PR (S0 p)) (L2:World) (i cb:Nat) (top:List Frame) (m:Gm) (w:World) (o:k6 E3 Lb) (k:Nat) (r:o6):Prop where
 ok:A5 p
 im:i<p.m
 mem:W3 p m w o.s r
 gu:LeG (gm w) m
 c:Gr0 (B3 p fb q L2 i cb top) w o k
 so:SOk p.n p.m (ue0 p) o.s
 L3:∀b,o.N1= .inl b->LOk p.n (p.bo i) i o.s b
structure Prv (N:Nat) (w:World) (F:Nat->Prop) (u:World) (F':Nat->Prop):Prop where
 size:w.heap.size <=u.heap.size
 j0:∀b,b<N->b<w.heap.size->w.heap[b]? ≠some nothing->¬F b->u.heap[b]? =w.heap[b]?/\¬F' b
 os:u.os=w.os
 output:u.output=w.output
theorem Prv.trans {N:Nat} {w u v:World} {F F1 F2:Nat->Prop} (h:Prv N w F u F1) (h':Prv N u F1 v F2):Prv N w F v F2 :=
 ⟨Nat.le_trans h.size h'.size,fun b hN hb hn hF=>by
  obtain⟨a,c⟩:=h.j0 b hN hb hn hF;obtain⟨a',c'⟩:=h'.j0 b hN (Nat.lt_of_lt_of_le hb h.size) (by rw[a];exact hn) c;exact⟨a'.trans a,c'⟩,h'.os.trans h.os,h'.output.trans h.output⟩
theorem Prv.down {N N':Nat} {w u:World} {F F1:Nat->Prop} (h:Prv N w F u F1) (hN:N' <=N):Prv N' w F u F1:=⟨h.size,fun b hb=>h.j0 b (by omega),h.os,h.output⟩
theorem Prv.blk {N:Nat} {w u:World} {F F1:Nat->Prop} (h:Prv N w F u F1) {b:Nat} {cs:Array Value} {T:TypeId} (hB:K0 w b cs T) (h0:0<cs.size) (hN:b<N) (hF:¬F b):K0 u b cs T/\¬F1 b:=by
 have hB':O1 w b cs T (0,0):=P3 hB;have:=h.j0 b hN hB'.lt (k9 hB' h0) hF;exact⟨this.1.trans hB',this.2⟩
section
variable {p:W4}{fb:Nat->FuncId}{q:PR (S0 p)}{L2:World}{i cb:Nat}{top:List Frame}{m m':Gm}{w w' u:World}{o:k6 E3 Lb}{k:Nat}{r:o6}{b:Lb}
theorem SAt.j0 (h:SAt p fb q L2 i cb top m w o k r) (hb:Below w.heap.size w w'):SAt p fb q L2 i cb top m w' o k r :=
 ⟨h.ok,h.im,h.mem.congr fun b hF=>hb.block b (h.mem.vis h.ok hF).1,by rw[ca0 hb.tape];exact h.gu,h.c.to hb.tape hb.os hb.output,h.so,h.L3⟩
theorem SAt.j6 (h:SAt p fb q L2 i cb top m w o k r) {b:Nat} (hg:w.grownBy w' (some b)) (hn:¬SF p m o.s r b):SAt p fb q L2 i cb top m w' o k r :=
 ⟨h.ok,h.im,h.mem.congr fun k hF=>hg.block k (h.mem.vis h.ok hF).1 fun e=>hn (by cases e;exact hF),by rw[ca0 hg.tape];exact h.gu,h.c.to hg.tape hg.os hg.output,h.so,h.L3⟩
theorem SAt.fresh (h:SAt p fb q L2 i cb top m w o k r) {b:Nat} (hb:w.heap.size <=b):¬SF p m o.s r b:=fun z=>by have:=(h.mem.vis h.ok z).1;omega
theorem SAt.iq0 (h:SAt p fb q L2 i cb top m w o k r) (hk:k=o.nts.length) (hf:o.N1= .inl b):(B3 p fb q L2 i cb top).Told w m (SF p m o.s r) (.inl b):=h.c.iq0 hk hf (fun _ _=>h.gu) ⟨r,rfl,h.mem⟩
theorem SAt.kok (h:SAt p fb q L2 i cb top m w o k r):KOk (B3 p fb q L2 i cb top):=Sys.kok (tz0 h.ok)
theorem av0 {F F':Nat->Prop} (hg:(B3 p fb q L2 i cb top).y6 w m F u F'):∃r1,F'=SF p (gm u) ((S0 p).sAt q (gh u 0)) r1/\W3 p (gm u) u ((S0 p).sAt q (gh u 0)) r1/\LeG m (gm u):=by
 obtain⟨r1,h1,h2⟩:=hg.inv;exact⟨r1,h1,h2,hg.le⟩
theorem W3.dom {s:E3} (h:W3 p m w s r) {e:Nat} (hx:m (9*e)≠0):e<s.en.length:=by
 rcases Nat.lt_or_ge e s.en.length with z|z
 ·exact z
 ·exact absurd (h.fe e z).1 hx
theorem b6 {s s':E3} {r':o6} (h:W3 p m w s r) (h':W3 p m' u s' r') (hl:LeG m m') {e:Nat} (he:e<s.en.length):e<s'.en.length/\eb m' e=eb m e/\lmG m' e=lmG m e/\ltG m' e=ltG m e/\cnG m' e=cnG m e/\(gE s' e).num=(gE s e).num:=by
 have hE:=h.en e he;have h0:=hE.g;have e1:=hl _ h0.1;have e2:=hl _ h0.2.1;have e3:=hl _ h0.2.2.1;have e4:=hl _ h0.2.2.2;have e5:=hl (9*e+6) (by rw[hE.gn];omega);have hd:=h'.dom (e:=e) (by rw[e1];exact h0.1);refine⟨hd,by unfold eb;rw[e1],by unfold lmG;rw[e2],by unfold ltG;rw[e3],by unfold cnG;rw[e4],?_⟩;have e6:=(h'.en e hd).gn;rw[e5,hE.gn]at e6;omega
structure Xh0 (p:W4) (fb:Nat->FuncId) (q:PR (S0 p)) (L2:World) (i cb:Nat) (top:List Frame) (m:Gm) (u:World) (F':Nat->Prop) (b:Lb) (s1:E3) (r1:o6):Prop where
 F:F'=SF p (gm u) s1 r1
 mem:W3 p (gm u) u s1 r1
 le:LeG m (gm u)
 c:Gr0 (B3 p fb q L2 i cb top) u (A4 p.n (p.bo i) i b s1) 0
 so:SOk p.n p.m (ue0 p) s1
 L3:LOk p.n (p.bo i) i s1 b
 rd:∀j,(s1.st j).E5 <=p.m
 rdy:Z5 b s1=true
theorem SAt.ib0 (h:SAt p fb q L2 i cb top m w o k r) {F F':Nat->Prop} (hg:(B3 p fb q L2 i cb top).Goes w m F b u F'):∃r1,Xh0 p fb q L2 i cb top m u F' b ((S0 p).sAt q (gh u 0)) r1:=by
 obtain⟨r1,h1,h2,h3⟩:=av0 hg.j4;obtain⟨ht,p',hR,_,e1,e2⟩:=hg.at_
 have hT:=Ad0 h.ok.n.1 p' hR;have hl:=Hn0 p' hR;rw[e1]at hT;refine⟨r1,h1,h2,h3,⟨hg.on,hg.nts,hg.out,hg.j4.os.trans h.c.os,hg.j4.output.trans h.c.output⟩,hT.so,hT.L3 i b e2,fun j=>?_,hg.rdy⟩;rw[hT.rd j];exact Nat.le_trans List.countP_le_length hl
theorem SOk.re0 (hp:A5 p) {s:E3} (h:SOk p.n p.m (ue0 p) s):s.en.length <=200:=by
 rw[h.en];have key:∀m,Y8 s.mn m <=Y8 (fun i=>(p.bo i).length) m:=fun m=>by
  induction m with
  |zero=>exact Nat.le_refl _
  |succ m ih=>rw[H6,H6];have:=h.mn m;exact Nat.add_le_add ih this
 exact Nat.le_trans (key _) hp.tot
theorem SAt.next (h:SAt p fb q L2 i cb top m w o k r) {F':Nat->Prop} {s1:E3} {r1 r2:o6} {u':World} (hw:Xh0 p fb q L2 i cb top m u F' b s1 r1) (hM:W3 p m' u' (sT p.n i b s1) r2) (hle:LeG (gm u) m') (ht:u'.tape=u.tape) (ho:u'.os=u.os) (hp:u'.output=u.output):SAt p fb q L2 i cb top m' u' (A4 p.n (p.bo i) i b s1) 0 r2:=by
 refine⟨h.ok,h.im,by rw[rd0];exact hM,by rw[ca0 ht];exact hle,hw.c.to ht ho hp,by rw[rd0];exact hw.so.sT hw.L3 h.im (Nat.le_refl _),fun b' p7=>?_⟩;have hX:=De0 h.ok.n.1 hw.L3 hw.so;rw[rd0];exact hX.ok b' p7
def om0 (p:W4) (fb:Nat->FuncId) (q:PR (S0 p)) (L2:World) (i cb:Nat) (top:List Frame) (b:Lb) (N:Nat) (m:Gm) (w:World) (s:E3) (r:o6) (A:Value->E3->Gm->o6->World->Prop):Ending->World->Prop :=
 A3 (B3 p fb q L2 i cb top) w fun v u=>∃s1 m1 r1,SAt p fb q L2 i cb top m1 u (A4 p.n (p.bo i) i b s1) 0 r1/\LeG m m1/\Prv N w (SF p m s r) u (SF p m1 (sT p.n i b s1) r1)/\LOk p.n (p.bo i) i s1 b/\SOk p.n p.m (ue0 p) s1/\A v s1 m1 r1 u
theorem SAt.wrote (h:SAt p fb q L2 i cb top m w o k r) {F':Nat->Prop} {s1:E3} {r1:o6} {u0:World} {x y:Nat} (hg:Gn (B3 p fb q L2 i cb top) w m (SF p m o.s r) b u0 F') (hw:Xh0 p fb q L2 i cb top m u0 F' b s1 r1) (hm:aj0 u0 u x y) (hx:F' x) (hy:y=x\/(w.heap.size <=y/\¬F' y)) (hM:W3 p (gm u0) u (sT p.n i b s1) r1) (hF:∀c,SF p (gm u0) (sT p.n i b s1) r1 c->SF p (gm u0) s1 r1 c) :
  SAt p fb q L2 i cb top (gm u0) u (A4 p.n (p.bo i) i b s1) 0 r1/\LeG m (gm u0)/\Prv w.heap.size w (SF p m o.s r) u (SF p (gm u0) (sT p.n i b s1) r1)/\LOk p.n (p.bo i) i s1 b/\SOk p.n p.m (ue0 p) s1 :=
 ⟨h.next hw hM (LeG.refl _) hm.tape hm.os hm.output,hw.le,⟨Nat.le_trans hg.goes.j4.size hm.size,fun c _ hc hn hF'=>by
  obtain⟨a,d⟩:=hg.goes.j4.j0 c hc hn hF';refine⟨(hm.block c (Nat.lt_of_lt_of_le hc hg.goes.j4.size) (fun e=>d (e▸hx)) fun e=>?_).trans a,fun z=>d (by rw[hw.F];exact hF c z)⟩;rcases hy with z|z
  ·exact d (by rw[e,z];exact hx)
  ·omega,hm.os.trans hg.goes.j4.os,hm.output.trans hg.goes.j4.output⟩,hw.L3,hw.so⟩
theorem SAt.looked (h:SAt p fb q L2 i cb top m w o k r) {F':Nat->Prop} {s1:E3} {r1:o6} (hg:Gn (B3 p fb q L2 i cb top) w m (SF p m o.s r) b u F') (hw:Xh0 p fb q L2 i cb top m u F' b s1 r1) (hs:sT p.n i b s1=s1) :
  SAt p fb q L2 i cb top (gm u) u (A4 p.n (p.bo i) i b s1) 0 r1/\LeG m (gm u)/\Prv w.heap.size w (SF p m o.s r) u (SF p (gm u) (sT p.n i b s1) r1)/\LOk p.n (p.bo i) i s1 b/\SOk p.n p.m (ue0 p) s1 :=
 ⟨h.next hw (by rw[hs];exact hw.mem) (LeG.refl _) rfl rfl rfl,hw.le,⟨hg.goes.j4.size,fun c _ hc hn hF'=>by
  obtain⟨a,d⟩:=hg.goes.j4.j0 c hc hn hF';exact⟨a,fun z=>d (by rw[hw.F,<- hs];exact z)⟩,hg.goes.j4.os,hg.goes.j4.output⟩,hw.L3,hw.so⟩
theorem SF.same {s s':E3} (he:s'.en.length=s.en.length) (hs:∀j,(s'.st j).M3=(s.st j).M3/\(s'.st j).O0=(s.st j).O0) {c:Nat} (h:SF p m s' r c):SF p m s r c:=by
 rcases h with⟨j,hj,z⟩|⟨e,hl,z⟩|z
 ·rw[(hs j).1,(hs j).2]at z;exact .inl ⟨j,hj,z⟩
 ·exact .inr (.inl ⟨e,he▸hl,z⟩)
 ·exact .inr (.inr z)
theorem SF.lock {s:E3} {j:Nat} {x:Str} (h1:x.M3=(s.st j).M3) (h2:x.O0=(s.st j).O0) {c:Nat} (h:SF p m (W6 s j x) r c):SF p m s r c :=
 SF.same (s:=s) (s':=W6 s j x) rfl (fun j'=>by
  show(o3 s.st j x j').M3=_/\(o3 s.st j x j').O0=_;by_cases e:j'=j
  ·subst e;rw[Y0];exact⟨h1,h2⟩
  ·rw[Z0 e];exact⟨rfl,rfl⟩) h
theorem SF.ent {s:E3} {e:Nat} {x:Ent} {c:Nat} (h:SF p m (A8 s e x) r c):SF p m s r c:=SF.same (s:=s) (s':=A8 s e x) (List.length_set ..) (fun _=>⟨rfl,rfl⟩) h
theorem nc0 {b:Nat} {a1 a2 b1 b2:Value} {h h':Bool} {x x':Int} {T T':TypeId} (h1:K0 w b #[a1,a2,.bool h,.int .i64 x] T) (h2:K0 w b #[b1,b2,.bool h',.int .i64 x'] T'):h=h'/\x=x':=by
 have e3:=congrArg (fun a:Array Value=>a.toList) (ov0 h1 h2);simp at e3;exact e3.2.2
theorem Sh0 {n:Nat} (h:n <=1000):IntKind.i64.wrap ((n:Int)+1)=((n+1:Nat):Int):=by rw[IntKind.wrap_i64];omega
theorem Si0 {n:Nat} (h:n <=1000):max 0 (IntKind.i64.wrap ((n:Int)-1))=((n-1:Nat):Int):=by rw[IntKind.wrap_i64];omega
end
section
variable {p:W4}{fb:Nat->FuncId}{q:PR (S0 p)}{L2:World}{i cb:Nat}{top:List Frame}{m:Gm}{w:World}{o:k6 E3 Lb}{k:Nat}{r:o6}{b:Lb}{e:Nat}
theorem Xi0 (h:SAt p fb q L2 i cb top m w o k r) (hk:k=o.nts.length) (hf:o.N1= .inl b) (hp:b.ph= .j5) :
  @Calls prog (I0 (B3 p fb q L2 i cb top)) 102 #[.pointer (some ⟨p.rw b.j,0,none⟩),.pointer (some ⟨cb,0,none⟩)] w (om0 p fb q L2 i cb top b w.heap.size m w o.s r fun v _s1 _m1 _ _=>v= .tuple #[]):=by
 refine U77 ?_;intro hj hT;have S2:(B3 p fb q L2 i cb top).stp b=⟨3,p.obj,(b.j:Nat)⟩:=by
  show u9 p.obj b=_;unfold u9;rw[hp]
 refine @Calls.mono _ (I0 _) _ _ _ _ _ (Ko0 h.kok (p.ls b.j) p.obj b.j _ _ (p.rw b.j) w hT S2 (h.mem.rob (h.ok.hR b.j hj)) (h.mem.lk b.j hj) (fun u F' hl=>?_)) fun e u he=>?_
 ·obtain⟨r1,-,hM,-⟩:=av0 hl;refine⟨_,_,hM.lk b.j hj,?_⟩;show Z5 b ((S0 p).sAt q (gh u 0))=_;unfold Z5;rw[hp]
 ·cases e with
  |outgrown=>exact he
  |panicked ch=>exact he
  |returned v=>
   obtain⟨rfl,u0,F',h',r',hg,hB0,hB,j3,ht⟩:=he;obtain⟨r1,hw⟩:=h.ib0 hg.goes;generalize (S0 p).sAt q (gh u0 0)=s1 at hw;obtain⟨e1,e2⟩:=nc0 hB0 (hw.mem.lk b.j hj);subst e1 e2;have fl1:=hw.rd b.j;have hm9:=h.ok.m;rw[Sh0 (by omega)]at hB;have hM:=hw.mem.lock h.ok hj j3 hB;have hs:sT p.n i b s1=W6 s1 b.j {s1.st b.j with E5:=(s1.st b.j).E5+1}:=by
    unfold sT;rw[hp]
   obtain⟨a1,a2,a3,a4,a5⟩:=h.wrote hg hw (aj0.of j3) (by rw[hw.F];exact SF.lk hj) (.inl rfl) (by rw[hs];exact hM) (fun c hc=>by rw[hs]at hc;refine SF.lock (s:=s1) (j:=b.j) ?_ ?_ hc <;> rfl);exact⟨_,_,r1,a1,a2,a3,a4,a5,rfl⟩
theorem av1 (h:SAt p fb q L2 i cb top m w o k r) (hk:k=o.nts.length) (hf:o.N1= .inl b) (hp:b.ph= .lck\/∃e,b.ph= .ad0 e) :
  @Calls prog (I0 (B3 p fb q L2 i cb top)) 52 #[.pointer (some ⟨p.rw b.j,0,none⟩),.pointer (some ⟨cb,0,none⟩)] w (om0 p fb q L2 i cb top b w.heap.size m w o.s r fun v _s1 _m1 _ _=>v= .tuple #[]):=by
 refine U77 ?_;intro hj hT;have S2:(B3 p fb q L2 i cb top).stp b=⟨1,p.obj,(b.j:Nat)⟩:=by
  show u9 p.obj b=_;unfold u9;rcases hp with hp|⟨e,hp⟩ <;> rw[hp]
 refine @Calls.mono _ (I0 _) _ _ _ _ _ (Qw0 h.kok (p.ls b.j) p.obj b.j _ _ (p.rw b.j) w hT S2 (h.mem.rob (h.ok.hR b.j hj)) (h.mem.lk b.j hj) (fun u F' hl=>?_)) fun e u he=>?_
 ·obtain⟨r1,-,hM,-⟩:=av0 hl;refine⟨_,_,hM.lk b.j hj,?_⟩;show Z5 b ((S0 p).sAt q (gh u 0))=_;unfold Z5;rcases hp with hp|⟨e,hp⟩ <;> simp only[hp] <;> congr 1 <;> exact decide_eq_decide.2 (by omega)
 ·cases e with
  |outgrown=>exact he
  |panicked ch=>exact he
  |returned v=>
   obtain⟨rfl,u0,F',h',r',hg,hB0,hB,j3,ht⟩:=he;obtain⟨r1,hw⟩:=h.ib0 hg.goes;generalize (S0 p).sAt q (gh u0 0)=s1 at hw;obtain⟨e1,e2⟩:=nc0 hB0 (hw.mem.lk b.j hj);subst e1 e2;have fl1:=hw.rd b.j;have hm9:=h.ok.m
   skip
   have hM:=hw.mem.lock h.ok hj j3 hB;have hs:sT p.n i b s1=W6 s1 b.j {s1.st b.j with held:=true}:=by
    unfold sT;rcases hp with hp|⟨e,hp⟩ <;> rw[hp]
   obtain⟨a1,a2,a3,a4,a5⟩:=h.wrote hg hw (aj0.of j3) (by rw[hw.F];exact SF.lk hj) (.inl rfl) (by rw[hs];exact hM) (fun c hc=>by rw[hs]at hc;refine SF.lock (s:=s1) (j:=b.j) ?_ ?_ hc <;> rfl);exact⟨_,_,r1,a1,a2,a3,a4,a5,rfl⟩
theorem aw1 (h:SAt p fb q L2 i cb top m w o k r) (hk:k=o.nts.length) (hf:o.N1= .inl b) (hp:(∃e,b.ph= .run e)\/b.ph= .ep0) :
  @CallsD prog (I0 (B3 p fb q L2 i cb top)) 103 #[.pointer (some ⟨p.rw b.j,0,none⟩),.pointer (some ⟨cb,0,none⟩)] w (om0 p fb q L2 i cb top b w.heap.size m w o.s r fun v _s1 _m1 _ _=>v= .tuple #[]):=by
 refine U77 ?_;intro hj hT;have S2:(B3 p fb q L2 i cb top).stp b=⟨4,p.obj,(b.j:Nat)⟩:=by
  show u9 p.obj b=_;unfold u9;rcases hp with⟨e,hp⟩|hp <;> rw[hp]
 have hrd:∀s,(B3 p fb q L2 i cb top).rdy b s=true:=fun s=>by
  show Z5 b s=true;unfold Z5;rcases hp with⟨e,hp⟩|hp <;> rw[hp]
 refine @CallsD.mono _ (I0 _) _ _ _ _ _ (Dl0 h.kok (p.ls b.j) p.obj b.j _ _ (p.rw b.j) w hT S2 hrd (h.mem.rob (h.ok.hR b.j hj)) (h.mem.lk b.j hj) (fun u F' hl=>?_)) fun e u he=>?_
 ·obtain⟨r1,-,hM,-⟩:=av0 hl;exact⟨_,_,hM.lk b.j hj⟩
 ·cases e with
  |outgrown=>exact he
  |panicked ch=>exact he
  |returned v=>
   obtain⟨rfl,u0,F',h',r',hg,hB0,hB,j3,ht⟩:=he;obtain⟨r1,hw⟩:=h.ib0 hg.goes;generalize (S0 p).sAt q (gh u0 0)=s1 at hw;obtain⟨e1,e2⟩:=nc0 hB0 (hw.mem.lk b.j hj);subst e1 e2;have fl1:=hw.rd b.j;have hm9:=h.ok.m;rw[Si0 (by omega)]at hB;have hM:=hw.mem.lock h.ok hj j3 hB;have hs:sT p.n i b s1=W6 s1 b.j {s1.st b.j with E5:=(s1.st b.j).E5-1}:=by
    unfold sT;rcases hp with⟨e,hp⟩|hp <;> rw[hp]
   obtain⟨a1,a2,a3,a4,a5⟩:=h.wrote hg hw (aj0.of j3) (by rw[hw.F];exact SF.lk hj) (.inl rfl) (by rw[hs];exact hM) (fun c hc=>by rw[hs]at hc;refine SF.lock (s:=s1) (j:=b.j) ?_ ?_ hc <;> rfl);exact⟨_,_,r1,a1,a2,a3,a4,a5,rfl⟩
theorem Iz0 (h:SAt p fb q L2 i cb top m w o k r) (hk:k=o.nts.length) (hf:o.N1= .inl b) (hp:(∃e,b.ph= .unl e)\/∃e,b.ph= .R6 e) :
  @CallsD prog (I0 (B3 p fb q L2 i cb top)) 53 #[.pointer (some ⟨p.rw b.j,0,none⟩),.pointer (some ⟨cb,0,none⟩)] w (om0 p fb q L2 i cb top b w.heap.size m w o.s r fun v _s1 _m1 _ _=>v= .tuple #[]):=by
 refine U77 ?_;intro hj hT;have S2:(B3 p fb q L2 i cb top).stp b=⟨2,p.obj,(b.j:Nat)⟩:=by
  show u9 p.obj b=_;unfold u9;rcases hp with⟨e,hp⟩|⟨e,hp⟩ <;> rw[hp]
 have hrd:∀s,(B3 p fb q L2 i cb top).rdy b s=true:=fun s=>by
  show Z5 b s=true;unfold Z5;rcases hp with⟨e,hp⟩|⟨e,hp⟩ <;> rw[hp]
 refine @CallsD.mono _ (I0 _) _ _ _ _ _ (Gq0 h.kok (p.ls b.j) p.obj b.j _ _ (p.rw b.j) w hT S2 hrd (h.mem.rob (h.ok.hR b.j hj)) (h.mem.lk b.j hj) (fun u F' hl=>?_)) fun e u he=>?_
 ·obtain⟨r1,-,hM,-⟩:=av0 hl;exact⟨_,_,hM.lk b.j hj⟩
 ·cases e with
  |outgrown=>exact he
  |panicked ch=>exact he
  |returned v=>
   obtain⟨rfl,u0,F',h',r',hg,hB0,hB,j3,ht⟩:=he;obtain⟨r1,hw⟩:=h.ib0 hg.goes;generalize (S0 p).sAt q (gh u0 0)=s1 at hw;obtain⟨e1,e2⟩:=nc0 hB0 (hw.mem.lk b.j hj);subst e1 e2;have fl1:=hw.rd b.j;have hm9:=h.ok.m
   skip
   have hM:=hw.mem.lock h.ok hj j3 hB;have hs:sT p.n i b s1=W6 s1 b.j {s1.st b.j with held:=false}:=by
    unfold sT;rcases hp with⟨e,hp⟩|⟨e,hp⟩ <;> rw[hp]
   obtain⟨a1,a2,a3,a4,a5⟩:=h.wrote hg hw (aj0.of j3) (by rw[hw.F];exact SF.lk hj) (.inl rfl) (by rw[hs];exact hM) (fun c hc=>by rw[hs]at hc;refine SF.lock (s:=s1) (j:=b.j) ?_ ?_ hc <;> rfl);exact⟨_,_,r1,a1,a2,a3,a4,a5,rfl⟩
theorem Sj0 (h:SAt p fb q L2 i cb top m w o k r) (hk:k=o.nts.length) (hf:o.N1= .inl b) (hp:b.ph= .look\/b.ph= .cd0\/∃e,b.ph= .ae0 e) :
  @Calls prog (I0 (B3 p fb q L2 i cb top)) 39 #[.pointer (some ⟨p.cl b.j,0,none⟩),.pointer (some ⟨cb,0,none⟩)] w (om0 p fb q L2 i cb top b w.heap.size m w o.s r fun v s1 m1 _ _=>v= .agg #[.slice (some ⟨va m1 b.j (s1.st b.j).M3,0,none⟩) (s1.st b.j).O0 (vc m1 b.j (s1.st b.j).M3),.int .i64 ((s1.st b.j).l.length:Nat),.int .i64 ((s1.st b.j).made:Nat)]):=by
 refine U77 ?_;intro hj hT;have S2:(B3 p fb q L2 i cb top).stp b=⟨8,oW p.obj 1,(b.j:Nat)⟩:=by
  show u9 p.obj b=_;unfold u9;rcases hp with hp|hp|⟨e,hp⟩ <;> rw[hp]
 have hrd:∀s,(B3 p fb q L2 i cb top).rdy b s=true:=fun s=>by
  show Z5 b s=true;unfold Z5;rcases hp with hp|hp|⟨e,hp⟩ <;> rw[hp]
 refine @Calls.mono _ (I0 _) _ _ _ _ _ (Sa0 h.kok (p.cl b.j) p.wb (oW p.obj 1) b.j _ _ _ _ _ w hT S2 hrd (h.mem.rob h.ok.hW) (h.mem.cl b.j hj) (fun u F' hg=>?_)) fun e u he=>?_
 ·obtain⟨r1,hw⟩:=h.ib0 hg;exact⟨_,_,_,_,_,hw.mem.cl b.j hj⟩
 ·cases e with
  |outgrown=>exact he
  |panicked ch=>exact he
  |returned v=>
   obtain⟨F',hg,sa,sn,sc,ct,md,rfl,hC⟩:=he;obtain⟨r1,hw⟩:=h.ib0 hg.goes;have hs:sT p.n i b ((S0 p).sAt q (gh u 0))=(S0 p).sAt q (gh u 0):=by
    unfold sT;rcases hp with hp|hp|⟨e,hp⟩ <;> rw[hp]
   obtain⟨a1,a2,a3,a4,a5⟩:=h.looked hg hw hs;refine⟨_,_,r1,a1,a2,a3,a4,a5,?_⟩;have e1:=ov0 hC (hw.mem.cl b.j hj);unfold clC at e1;have e3:=congrArg (fun a:Array Value=>a.toList) e1;simp at e3;obtain⟨x1,x2,x3⟩:=e3;obtain⟨y1,y2,y3⟩:=x1;subst y1 y2 y3 x2 x3;rfl
theorem Xj0 (h:SAt p fb q L2 i cb top m w o k r) (hk:k=o.nts.length) (hf:o.N1= .inl b) (hp:b.ph= .K1 e) :
  @Calls prog (I0 (B3 p fb q L2 i cb top)) 55 #[.pointer (some ⟨cnG m e,0,none⟩),.pointer (some ⟨cb,0,none⟩)] w (om0 p fb q L2 i cb top b w.heap.size m w o.s r fun v s1 _m1 _ _=>v= .int .i64 (gE s1 e).K1):=by
 have he:=(h.L3 b hf).e e (by rw[hp] <;> rfl);have hnu:=(h.L3 b hf).nu e (by rw[hp] <;> rfl);have hT:=h.iq0 hk hf;have S2:(B3 p fb q L2 i cb top).stp b=⟨5,oW p.obj 3,((gE o.s e).num:Nat)⟩:=by
  show u9 p.obj b=_;unfold u9;rw[<- hnu];rw[hp]
 have hrd:∀s,(B3 p fb q L2 i cb top).rdy b s=true:=fun s=>by
  show Z5 b s=true;unfold Z5;rw[hp]
 obtain⟨sa,hC⟩:=(h.mem.en e he).hC;refine @Calls.mono _ (I0 _) _ _ _ _ _ (Wm0 h.kok (cnG m e) p.wb (oW p.obj 3) ((gE o.s e).num:Nat) (fun tt=>(gE ((S0 p).sAt q tt) e).K1) _ sa w hT S2 hrd (h.mem.rob h.ok.hW) hC (fun u F' hg=>?_)) fun x u x9=>?_
 ·obtain⟨r1,hw⟩:=h.ib0 hg;obtain⟨l1,l2,l3,l4,l5,l6⟩:=b6 h.mem hw.mem hw.le he;obtain⟨sa,hC⟩:=(hw.mem.en e l1).hC;rw[l5]at hC;unfold cnC at hC;rw[l6]at hC;exact⟨sa,hC⟩
 ·cases x with
  |outgrown=>exact x9
  |panicked ch=>exact x9
  |returned v=>
   obtain⟨F',tt,hg,htt,rfl⟩:=x9;obtain⟨r1,hw⟩:=h.ib0 hg.goes;have hs:sT p.n i b ((S0 p).sAt q (gh u 0))=(S0 p).sAt q (gh u 0):=by
    unfold sT;rw[hp]
   obtain⟨a1,a2,a3,a4,a5⟩:=h.looked hg hw hs;exact⟨_,_,r1,a1,a2,a3,a4,a5,by rw[htt.eq]⟩
theorem Sk0 (h:SAt p fb q L2 i cb top m w o k r) (hk:k=o.nts.length) (hf:o.N1= .inl b) (hp:b.ph= .more e\/b.ph= .z6 e) :
  @Calls prog (I0 (B3 p fb q L2 i cb top)) 50 #[.pointer (some ⟨cnG m e,0,none⟩),.pointer (some ⟨cb,0,none⟩),.int .i64 1] w (om0 p fb q L2 i cb top b w.heap.size m w o.s r fun v s1 _m1 _ _=>v= .int .i64 (IntKind.i64.wrap ((gE s1 e).K1+1))):=by
 have he:=(h.L3 b hf).e e (by(rcases hp with hp|hp <;> rw[hp]) <;> rfl);have hnu:=(h.L3 b hf).nu e (by(rcases hp with hp|hp <;> rw[hp]) <;> rfl);have hT:=h.iq0 hk hf;have S2:(B3 p fb q L2 i cb top).stp b=⟨7,oW p.obj 3,((gE o.s e).num:Nat)⟩:=by
  show u9 p.obj b=_;unfold u9;rw[<- hnu]
  (rcases hp with hp|hp <;> rw[hp])
 have hrd:∀s,(B3 p fb q L2 i cb top).rdy b s=true:=fun s=>by
  show Z5 b s=true;unfold Z5
  (rcases hp with hp|hp <;> rw[hp])
 obtain⟨sa,hC⟩:=(h.mem.en e he).hC;refine @Calls.mono _ (I0 _) _ _ _ _ _ (In0 h.kok (cnG m e) p.wb (oW p.obj 3) ((gE o.s e).num:Nat) (fun tt=>(gE ((S0 p).sAt q tt) e).K1) _ 1 sa w hT S2 hrd (h.mem.rob h.ok.hW) hC (fun u F' hg=>?_)) fun x u x9=>?_
 ·obtain⟨r1,hw⟩:=h.ib0 hg;obtain⟨l1,l2,l3,l4,l5,l6⟩:=b6 h.mem hw.mem hw.le he;obtain⟨sa,hC⟩:=(hw.mem.en e l1).hC;rw[l5]at hC;unfold cnC at hC;rw[l6]at hC;exact⟨sa,hC⟩
 ·cases x with
  |outgrown=>exact x9
  |panicked ch=>exact x9
  |returned v=>
   obtain⟨u0,F',tt,sa2,hg,htt,rfl,hB,y,hy1,hy2,hm2,ht⟩:=x9;obtain⟨r1,hw⟩:=h.ib0 hg.goes;subst htt;obtain⟨l1,l2,l3,l4,l5,l6⟩:=b6 h.mem hw.mem hw.le he;have hs:sT p.n i b ((S0 p).sAt q (gh u0 0))=D8 ((S0 p).sAt q (gh u0 0)) e (1):=by
    unfold sT
    (rcases hp with hp|hp <;> rw[hp])
   have hM:=hw.mem.cnt h.ok l1 (l5.symm▸hm2) (fun z=>hy2 (by rw[hw.F];exact z)) (l5.symm▸l6.symm▸hB);obtain⟨a1,a2,a3,a4,a5⟩:=h.wrote hg hw hm2 (by rw[hw.F,<- l5];exact SF.cn l1) (.inr ⟨hy1,hy2⟩) (by rw[hs];exact hM) (fun c hc=>by rw[hs]at hc;exact SF.ent hc);exact⟨_,_,r1,a1,a2,a3,a4,a5,rfl⟩
theorem fm1 (h:SAt p fb q L2 i cb top m w o k r) (hk:k=o.nts.length) (hf:o.N1= .inl b) (hp:b.ph= .less e) :
  @Calls prog (I0 (B3 p fb q L2 i cb top)) 50 #[.pointer (some ⟨cnG m e,0,none⟩),.pointer (some ⟨cb,0,none⟩),.int .i64 (-1)] w (om0 p fb q L2 i cb top b w.heap.size m w o.s r fun v s1 _m1 _ _=>v= .int .i64 (IntKind.i64.wrap ((gE s1 e).K1+(-1)))):=by
 have he:=(h.L3 b hf).e e (by rw[hp] <;> rfl);have hnu:=(h.L3 b hf).nu e (by rw[hp] <;> rfl);have hT:=h.iq0 hk hf;have S2:(B3 p fb q L2 i cb top).stp b=⟨7,oW p.obj 3,((gE o.s e).num:Nat)⟩:=by
  show u9 p.obj b=_;unfold u9;rw[<- hnu];rw[hp]
 have hrd:∀s,(B3 p fb q L2 i cb top).rdy b s=true:=fun s=>by
  show Z5 b s=true;unfold Z5;rw[hp]
 obtain⟨sa,hC⟩:=(h.mem.en e he).hC;refine @Calls.mono _ (I0 _) _ _ _ _ _ (In0 h.kok (cnG m e) p.wb (oW p.obj 3) ((gE o.s e).num:Nat) (fun tt=>(gE ((S0 p).sAt q tt) e).K1) _ (-1) sa w hT S2 hrd (h.mem.rob h.ok.hW) hC (fun u F' hg=>?_)) fun x u x9=>?_
 ·obtain⟨r1,hw⟩:=h.ib0 hg;obtain⟨l1,l2,l3,l4,l5,l6⟩:=b6 h.mem hw.mem hw.le he;obtain⟨sa,hC⟩:=(hw.mem.en e l1).hC;rw[l5]at hC;unfold cnC at hC;rw[l6]at hC;exact⟨sa,hC⟩
 ·cases x with
  |outgrown=>exact x9
  |panicked ch=>exact x9
  |returned v=>
   obtain⟨u0,F',tt,sa2,hg,htt,rfl,hB,y,hy1,hy2,hm2,ht⟩:=x9;obtain⟨r1,hw⟩:=h.ib0 hg.goes;subst htt;obtain⟨l1,l2,l3,l4,l5,l6⟩:=b6 h.mem hw.mem hw.le he;have hs:sT p.n i b ((S0 p).sAt q (gh u0 0))=D8 ((S0 p).sAt q (gh u0 0)) e (-1):=by
    unfold sT;rw[hp]
   have hM:=hw.mem.cnt h.ok l1 (l5.symm▸hm2) (fun z=>hy2 (by rw[hw.F];exact z)) (l5.symm▸l6.symm▸hB);obtain⟨a1,a2,a3,a4,a5⟩:=h.wrote hg hw hm2 (by rw[hw.F,<- l5];exact SF.cn l1) (.inr ⟨hy1,hy2⟩) (by rw[hs];exact hM) (fun c hc=>by rw[hs]at hc;exact SF.ent hc);exact⟨_,_,r1,a1,a2,a3,a4,a5,rfl⟩
theorem Xk0 (h:SAt p fb q L2 i cb top m w o k r) (hk:k=o.nts.length) (hf:o.N1= .inl b) (hp:b.ph= .n5 e) :
  @Calls prog (I0 (B3 p fb q L2 i cb top)) 48 #[.pointer (some ⟨lmG m e,0,none⟩),.pointer (some ⟨cb,0,none⟩)] w (om0 p fb q L2 i cb top b w.heap.size m w o.s r fun v _s1 _m1 _ _=>v= .tuple #[]):=by
 have he:=(h.L3 b hf).e e (by rw[hp];rfl);have hnu:=(h.L3 b hf).nu e (by rw[hp];rfl);have hT:=h.iq0 hk hf;have S2:(B3 p fb q L2 i cb top).stp b=⟨1,oW p.obj 2,((gE o.s e).num:Nat)⟩:=by
  show u9 p.obj b=_;unfold u9;rw[<- hnu,hp]
 have hL:=(h.mem.en e he).hL;refine @Calls.mono _ (I0 _) _ _ _ _ _ (Qv0 h.kok (ltG m e) (oW p.obj 2) ((gE o.s e).num:Nat) _ _ (lmG m e) w hT S2 (h.mem.en e he).hM hL (fun u F' hl=>?_)) fun x u x9=>?_
 ·obtain⟨r1,-,hM,hle⟩:=av0 hl;obtain⟨l1,l2,l3,l4,l5,l6⟩:=b6 h.mem hM hle he;have hL1:=(hM.en e l1).hL;rw[l4]at hL1;unfold ltC at hL1;rw[l6]at hL1;refine⟨_,_,hL1,?_⟩;show Z5 b ((S0 p).sAt q (gh u 0))=_;unfold Z5;rw[hp];simp
 ·cases x with
  |outgrown=>exact x9
  |panicked ch=>exact x9
  |returned v=>
   obtain⟨rfl,u0,F',h',r',hg,hB0,hB,j3,ht⟩:=x9;obtain⟨r1,hw⟩:=h.ib0 hg.goes;obtain⟨l1,l2,l3,l4,l5,l6⟩:=b6 h.mem hw.mem hw.le he;have hL1:=(hw.mem.en e l1).hL;rw[l4]at hL1;obtain⟨e1,e2⟩:=nc0 hB0 hL1;subst e1 e2;have hM:=hw.mem.n5 h.ok l1 (hd:=true) (by rw[l4];exact j3) (by rw[l4,l6];exact hB);have hs:sT p.n i b ((S0 p).sAt q (gh u0 0))=A8 ((S0 p).sAt q (gh u0 0)) e {gE ((S0 p).sAt q (gh u0 0)) e with held:=true}:=by
    unfold sT;rw[hp]
   obtain⟨a1,a2,a3,a4,a5⟩:=h.wrote hg hw (aj0.of j3) (by rw[hw.F,<- l4];exact SF.lt l1) (.inl rfl) (by rw[hs];exact hM) (fun c hc=>by rw[hs]at hc;exact SF.ent hc);exact⟨_,_,r1,a1,a2,a3,a4,a5,rfl⟩
theorem Lc0 (h:SAt p fb q L2 i cb top m w o k r) (hk:k=o.nts.length) (hf:o.N1= .inl b) (hp:b.ph= .W2 e) :
  @Calls prog (I0 (B3 p fb q L2 i cb top)) 49 #[.pointer (some ⟨lmG m e,0,none⟩),.pointer (some ⟨cb,0,none⟩)] w (om0 p fb q L2 i cb top b w.heap.size m w o.s r fun v _s1 _m1 _ _=>v= .tuple #[]):=by
 have he:=(h.L3 b hf).e e (by rw[hp];rfl);have hnu:=(h.L3 b hf).nu e (by rw[hp];rfl);have hT:=h.iq0 hk hf;have S2:(B3 p fb q L2 i cb top).stp b=⟨2,oW p.obj 2,((gE o.s e).num:Nat)⟩:=by
  show u9 p.obj b=_;unfold u9;rw[<- hnu,hp]
 have hrd:∀s,(B3 p fb q L2 i cb top).rdy b s=true:=fun s=>by
  show Z5 b s=true;unfold Z5;rw[hp]
 have hL:=(h.mem.en e he).hL;refine @Calls.mono _ (I0 _) _ _ _ _ _ (Fu0 h.kok (ltG m e) (oW p.obj 2) ((gE o.s e).num:Nat) _ _ (lmG m e) w hT S2 hrd (h.mem.en e he).hM hL (fun u F' hl=>?_)) fun x u x9=>?_
 ·obtain⟨r1,-,hM,hle⟩:=av0 hl;obtain⟨l1,l2,l3,l4,l5,l6⟩:=b6 h.mem hM hle he;have hL1:=(hM.en e l1).hL;rw[l4]at hL1;unfold ltC at hL1;rw[l6]at hL1;refine⟨_,_,hL1⟩
 ·cases x with
  |outgrown=>exact x9
  |panicked ch=>exact x9
  |returned v=>
   obtain⟨rfl,u0,F',h',r',hg,hB0,hB,j3,ht⟩:=x9;obtain⟨r1,hw⟩:=h.ib0 hg.goes;obtain⟨l1,l2,l3,l4,l5,l6⟩:=b6 h.mem hw.mem hw.le he;have hL1:=(hw.mem.en e l1).hL;rw[l4]at hL1;obtain⟨e1,e2⟩:=nc0 hB0 hL1;subst e1 e2;have hM:=hw.mem.n5 h.ok l1 (hd:=false) (by rw[l4];exact j3) (by rw[l4,l6];exact hB);have hs:sT p.n i b ((S0 p).sAt q (gh u0 0))=A8 ((S0 p).sAt q (gh u0 0)) e {gE ((S0 p).sAt q (gh u0 0)) e with held:=false}:=by
    unfold sT;rw[hp]
   obtain⟨a1,a2,a3,a4,a5⟩:=h.wrote hg hw (aj0.of j3) (by rw[hw.F,<- l4];exact SF.lt l1) (.inl rfl) (by rw[hs];exact hM) (fun c hc=>by rw[hs]at hc;exact SF.ent hc);exact⟨_,_,r1,a1,a2,a3,a4,a5,rfl⟩
end
section
variable {p:W4}{m:Gm}{w u:World}{s s':E3}{r:o6}
def BkF (O0 a:Nat) (ia:Nat->Option Addr) (x:Nat):Prop:=x=a\/∃i,i<O0/\ia i≠none/\x=ab (ia i)
theorem SF.Sg0 {j a c made O0 x:Nat} {l:List Nat} {ia:Nat->Option Addr} {ic:Nat->Nat} (hp:A5 p) (hj:j<p.n) (Go0:O0 <=256) (hso:∀j,(s.st j).O0 <=256) (hca:∀i,i<O0->∀x,ia i=some x->x=⟨x.block,0,none⟩) (h:SF p (au0 m j ((s.st j).M3+1) a c ia ic) (W6 s j ⟨(s.st j).held,(s.st j).E5,l,made,O0,(s.st j).M3+1⟩) r x):SF p m s r x\/BkF O0 a ia x:=by
 have hsj:(W6 s j ⟨(s.st j).held,(s.st j).E5,l,made,O0,(s.st j).M3+1⟩).st j=⟨(s.st j).held,(s.st j).E5,l,made,O0,(s.st j).M3+1⟩:=Y0;have hsn:∀j',j'≠j->(W6 s j ⟨(s.st j).held,(s.st j).E5,l,made,O0,(s.st j).M3+1⟩).st j'=s.st j':=fun j' h=>Z0 h;rcases h with⟨j',r9,h⟩|⟨e,he,h⟩|h
 ·by_cases hjj:j'=j
  ·subst hjj;rw[hsj]at h;rcases h with h|h|h|⟨i,hi,ha,h⟩
   ·exact .inl (.inl ⟨j',r9,.inl h⟩)
   ·exact .inl (.inl ⟨j',r9,.inr (.inl h)⟩)
   ·refine .inr (.inl ?_);rw[h];show va _ _ ((s.st j').M3+1)=a;unfold va;rw[Gl0];rfl
   ·have hi:i<O0:=hi;have e1:iaG (au0 m j' ((s.st j').M3+1) a c ia ic) j' ((s.st j').M3+1) i=ia i:=by
     unfold iaG;rw[Gm0 m (by omega)];exact au1 (hca i hi)
    have ha:iaG _ j' ((s.st j').M3+1) i≠none:=ha;have h:x=ab (iaG _ j' ((s.st j').M3+1) i):=h;rw[e1]at ha h;exact .inr (.inr ⟨i,hi,ha,h⟩)
  ·rw[hsn j' hjj]at h;have h64:=Nat.lt_of_lt_of_le hj hp.n.2;have nx1:=Nat.lt_of_lt_of_le r9 hp.n.2;have hva:va (au0 m j ((s.st j).M3+1) a c ia ic) j' (s.st j').M3=va m j' (s.st j').M3:=by unfold va;rw[ow0 m h64 nx1 (.inl hjj)]
   rw[hva]at h;refine .inl (.inl ⟨j',r9,?_⟩);rcases h with h|h|h|⟨i,hi,ha,h⟩
   ·exact .inl h
   ·exact .inr (.inl h)
   ·exact .inr (.inr (.inl h))
   ·have e1:iaG (au0 m j ((s.st j).M3+1) a c ia ic) j' (s.st j').M3 i=iaG m j' (s.st j').M3 i:=by
     unfold iaG;rw[ox0 m h64 nx1 (.inl hjj) (Nat.lt_of_lt_of_le hi (hso j'))]
    rw[e1]at ha h;exact .inr (.inr (.inr ⟨i,hi,ha,h⟩))
 ·refine .inl (.inr (.inl ⟨e,he,?_⟩));unfold Sc.eb lmG ltG cnG at h⊢;rw[Iy0,na0 m (.inr (.inl rfl)),na0 m (.inr (.inr (.inl rfl))),na0 m (.inr (.inr (.inr (.inl rfl))))]at h;exact h
 ·exact .inl (.inr (.inr h))
theorem SF.db0 {x:Ent} {b lm lt cn z:Nat} (h:SF p (bp0 m s.en.length b lm lt cn x.num) (Sc.db0 s x) {r with ky:=o3 r.ky b x.key} z):SF p m s r z\/z=b\/z=lm\/z=lt\/z=cn:=by
 have hg1:∀k,bp0 m s.en.length b lm lt cn x.num (9*k+1)=m (9*k+1):=fun k=>nb0 _ _ _ _ _ _ _ _ 1 (.inl rfl);have hg7:∀k,bp0 m s.en.length b lm lt cn x.num (9*k+7)=m (9*k+7):=fun k=>nb0 _ _ _ _ _ _ _ _ 7 (.inr (.inr (.inl rfl)));rcases h with⟨j',r9,h⟩|⟨e,he,h⟩|h
 ·have hva:va (bp0 m s.en.length b lm lt cn x.num) j' ((Sc.db0 s x).st j').M3=va m j' (s.st j').M3:=by unfold va;rw[hg1];rfl
  have hia:iaG (bp0 m s.en.length b lm lt cn x.num) j' ((Sc.db0 s x).st j').M3=iaG m j' (s.st j').M3:=funext fun i=>by unfold iaG;rw[hg7];rfl
  rw[hva,hia]at h;exact .inl (.inl ⟨j',r9,h⟩)
 ·have hlen:(Sc.db0 s x).en.length=s.en.length+1:=by show(s.en ++ [x]).length=_;rw[List.length_append];rfl
  rw[hlen]at he;by_cases hen:e=s.en.length
  ·subst hen;have h9:=oy0 m s.en.length b lm lt cn x.num;unfold Sc.eb lmG ltG cnG at h;rw[h9.1,h9.2.1,h9.2.2.1,h9.2.2.2.1]at h;exact .inr h
  ·have h9:=lu0 m (b:=b) (lm:=lm) (lt:=lt) (cn:=cn) (nu:=x.num) hen;refine .inl (.inr (.inl ⟨e,by omega,?_⟩));unfold Sc.eb lmG ltG cnG at h⊢;rw[h9.1,h9.2.1,h9.2.2.1,h9.2.2.2.1]at h;exact h
 ·exact .inl (.inr (.inr h))
theorem Bk.j4 {F F':Nat->Prop} {N n c:Nat} {a:Nat} {sl:Nat->List Nat} {ia:Nat->Option Addr} {ic:Nat->Nat} (h:Bk w N n (some ⟨a,0,none⟩) c sl ia ic) (hk:∀b,b<w.heap.size->w.heap[b]? ≠some nothing->¬F b->u.heap[b]? =w.heap[b]?/\¬F' b) (hn:∀x,BkF n a ia x->¬F x):Bk u N n (some ⟨a,0,none⟩) c sl ia ic/\∀x,BkF n a ia x->¬F' x:=by
 have v1:a<w.heap.size/\w.heap[a]? ≠some nothing:=by
  obtain⟨cur,hc,_⟩:=h.out.row (by simp);exact Y6 hc (by decide)
 have v2:∀i,i<n->ia i≠none->ab (ia i)<w.heap.size/\w.heap[ab (ia i)]? ≠some nothing:=fun i hi ha=>by
  obtain⟨cur,hc,_⟩:=(h.inn i hi).row ha;exact Y6 hc (by decide)
 refine⟨h.congr (fun _=>(hk a v1.1 v1.2 (hn a (.inl rfl))).1) fun i hi ha=>(hk _ (v2 i hi ha).1 (v2 i hi ha).2 (hn _ (.inr ⟨i,hi,ha,rfl⟩))).1,fun x hx=>?_⟩;rcases hx with rfl|⟨i,hi,ha,rfl⟩
 ·exact(hk _ v1.1 v1.2 (hn _ (.inl rfl))).2
 ·exact(hk _ (v2 i hi ha).1 (v2 i hi ha).2 (hn _ (.inr ⟨i,hi,ha,rfl⟩))).2
theorem Bk.low {N n c a:Nat} {sl:Nat->List Nat} {ia:Nat->Option Addr} {ic:Nat->Nat} (h:Bk w N n (some ⟨a,0,none⟩) c sl ia ic) {x:Nat} (hx:BkF n a ia x):N <=x:=by
 rcases hx with rfl|⟨i,hi,ha,rfl⟩
 ·obtain⟨cur,_,hle,_⟩:=h.out.row (by simp);exact hle
 ·obtain⟨cur,_,hle,_⟩:=(h.inn i hi).row ha;exact hle
theorem Bk.cap {N n c:Nat} {a:Option Addr} {sl:Nat->List Nat} {ia:Nat->Option Addr} {ic:Nat->Nat} (h:Bk w N n a c sl ia ic) (h0:0<n):c≠0:=by
 obtain⟨cur,_,_,hc,_⟩:=h.out.row (h.out.ga0 h0);omega
theorem rf0 {m':Gm} {r':o6} (h:W3 p m w s r) (h':W3 p m' u s' r') (hl:LeG m m') {n:Nat} {l:List Nat} (J1:∀e∈l,e<s.en.length) (hk:∀e∈l,(gE s' e).key=(gE s e).key):l.map (eb m')=l.map (eb m)/\at_ r'.ky n (l.map (eb m'))=at_ r.ky n (l.map (eb m)):=by
 have e1:l.map (eb m')=l.map (eb m):=List.map_congr_left fun e he=>(b6 h h' hl (J1 e he)).2.1;refine⟨e1,?_⟩;rw[e1];refine lv0 fun b hb=>?_;obtain⟨e,he,rfl⟩:=List.mem_map.1 hb;obtain⟨l1,l2,_⟩:=b6 h h' hl (J1 e he);have h1:=(h'.en e l1).ky;have h2:=(h.en e (J1 e he)).ky;rw[h2,<- hk e he,<- h1,l2]
end
section
variable {p:W4}{fb:Nat->FuncId}{q:PR (S0 p)}{L2:World}{i cb:Nat}{top:List Frame}{m:Gm}{w:World}{o:k6 E3 Lb}{k:Nat}{r:o6}{b:Lb}{e:Nat}
theorem yk0 {s1:E3} (hL:LOk p.n (p.bo i) i o.s b) (hL1:LOk p.n (p.bo i) i s1 b) (hb:Iu0 b.ph=true):s1.st b.j=o.s.st b.j/\∀e∈(o.s.st b.j).l,(gE s1 e).key=(gE o.s e).key:=by
 have h1:=hL.bs hb;have h2:=hL1.bs hb;have S2:s1.st b.j=o.s.st b.j:=h2.1.trans h1.1.symm;refine⟨S2,?_⟩;have h3:H7 s1 b.j=H7 o.s b.j:=h2.2.trans h1.2.symm;unfold H7 at h3;rw[S2]at h3;exact List.map_inj_left.1 h3
theorem yl0 {B n c:Nat} {E:TypeId} {a:Option Addr} {xs:List Value} {u:World} {F F':Nat->Prop} (h:Own w B E 1 a n c xs) (hE:E≠0) (hk:∀b,b<w.heap.size->w.heap[b]? ≠some nothing->¬F b->u.heap[b]? =w.heap[b]?/\¬F' b) (hn:a≠none->¬F (ab a)):Own u B E 1 a n c xs/\(a≠none->¬F' (ab a)):=by
 have v1:a≠none->ab a<w.heap.size/\w.heap[ab a]? ≠some nothing:=fun ha=>by
  obtain⟨cur,hc,_⟩:=h.row ha;exact Y6 hc hE
 exact⟨Own.congr h fun ha=>(hk _ (v1 ha).1 (v1 ha).2 (hn ha)).1,fun ha=>(hk _ (v1 ha).1 (v1 ha).2 (hn ha)).2⟩
theorem ym0 {m':Gm} {u:World} {s s':E3} {r':o6} (h:W3 p m w s r) (hl:LeG m m') {j x:Nat} (hj:j<p.n) (hx:x<(s.st j).O0):iaG m' j (s.st j).M3 x=iaG m j (s.st j).M3 x/\icG m' j (s.st j).M3 x=icG m j (s.st j).M3 x:=by
 have h1:=h.gi j x hj hx;unfold iaG icG;rw[hl _ h1.1,hl _ h1.2];exact⟨rfl,rfl⟩
theorem ny1 (h:SAt p fb q L2 i cb top m w o k r) (hk:k=o.nts.length) (hf:o.N1= .inl b) (hp:b.ph= .out e) {a c N i0:Nat} {ia:Nat->Option Addr} {ic:Nat->Nat} {sl:Nat->List Nat} (hN:p.B <=N) (_hNw:N <=w.heap.size)
  (hsl:sl=at_ r.ky (o.s.st b.j).O0 (((o.s.st b.j).l.filter fun x=>decide (x≠e)).map (eb m)))
  (hO:Own w N 195 1 (some ⟨a,0,none⟩) (o.s.st b.j).O0 c (lst (fun x=>.slice (ia x) (sl x).length (ic x)) (o.s.st b.j).O0)) (hI:Own w N 71 1 (ia i0) (sl i0).length (ic i0) ((sl i0).map ptr))
  (hsh:∀x,x<(o.s.st b.j).O0->x≠i0->ia x=iaG m b.j (o.s.st b.j).M3 x/\ic x=icG m b.j (o.s.st b.j).M3 x/\sl x=at_ r.ky (o.s.st b.j).O0 ((o.s.st b.j).l.map (eb m)) x)
  (hpr:¬SF p m o.s r a) (hpi:ia i0≠none->¬SF p m o.s r (ab (ia i0))) :
  @Calls prog (I0 (B3 p fb q L2 i cb top)) 56 #[.pointer (some ⟨p.cl b.j,0,none⟩),.pointer (some ⟨cb,0,none⟩),.agg #[.slice (some ⟨a,0,none⟩) (o.s.st b.j).O0 c,.int .i64 (((o.s.st b.j).l.filter fun x=>decide (x≠e)).length:Nat),.int .i64 ((o.s.st b.j).made:Nat)]] w (om0 p fb q L2 i cb top b N m w o.s r fun v _ _ _ _=>v= .tuple #[]):=by
 refine U77 ?_;intro hj hT;have S2:(B3 p fb q L2 i cb top).stp b=⟨9,oW p.obj 1,(b.j:Nat)⟩:=by
  show u9 p.obj b=_;unfold u9;rw[hp]
 have hrd:∀s,(B3 p fb q L2 i cb top).rdy b s=true:=fun s=>by
  show Z5 b s=true;unfold Z5;rw[hp]
 refine @Calls.mono _ (I0 _) _ _ _ _ _ (Il0 h.kok (p.cl b.j) p.wb (oW p.obj 1) b.j _ _ _ _ _ _ _ _ _ _ w hT S2 hrd (h.mem.rob h.ok.hW) (h.mem.cl b.j hj) (fun u F' hg=>?_)) fun x u x9=>?_
 ·obtain⟨r1,hw⟩:=h.ib0 hg;exact⟨_,_,_,_,_,hw.mem.cl b.j hj⟩
 ·cases x with
  |outgrown=>exact x9
  |panicked ch=>exact x9
  |returned v=>
   obtain⟨rfl,u0,F',hg,hC,j3⟩:=x9;obtain⟨r1,hw⟩:=h.ib0 hg.goes;generalize (S0 p).sAt q (gh u0 0)=s1 at hw;obtain⟨b1,b2⟩:=yk0 (h.L3 b hf) hw.L3 (by rw[hp];rfl);obtain⟨hO0,hO1⟩:=yl0 hO (by decide) hg.goes.j4.j0 (fun _=>hpr);obtain⟨hI0,hI1⟩:=yl0 hI (by decide) hg.goes.j4.j0 hpi;have Kz0:∀x∈(o.s.st b.j).l.filter fun x=>decide (x≠e),x∈(o.s.st b.j).l:=fun x hx=>(List.mem_filter.1 hx).1;have X7:=rf0 (n:=(o.s.st b.j).O0) h.mem hw.mem hw.le (fun x hx=>h.so.l b.j x (Kz0 x hx)) (fun x hx=>b2 x (Kz0 x hx));have sx1:=rf0 (n:=(o.s.st b.j).O0) h.mem hw.mem hw.le (h.so.l b.j) b2;have hbk:=hw.mem.bk b.j hj;rw[b1]at hbk;have hB0:Bk u0 p.B (o.s.st b.j).O0 (some ⟨a,0,none⟩) c sl ia ic:=⟨hO0.down hN,fun x hx=>by
    by_cases hx0:x=i0
    ·subst hx0;exact hI0.down hN
    ·obtain⟨t1,t2,t3⟩:=hsh x hx hx0;obtain⟨t4,t5⟩:=ym0 (u:=u0) (s':=s1) (r':=r1) h.mem hw.le hj hx;have h9:=hbk.inn x hx;rw[t4,t5,sx1.2]at h9;rw[t1,t2,t3];exact h9⟩
   rw[hsl,<- X7.2]at hB0;have N5:Bk u p.B _ _ _ _ _ _:=hB0.other j3 (hw.mem.cl b.j hj) ⟨by decide,by decide⟩;have Go0:(o.s.st b.j).O0 <=256:=by have h8:=h.so.re0 h.ok;have h9:=(h.so.sl b.j).2;omega
   have hso:∀j,(s1.st j).O0 <=256:=fun j=>by have h8:=hw.so.re0 h.ok;have h9:=(hw.so.sl j).2;omega
   have hca:=fun x hx=>fl0 (N5.inn x hx);have hc0:c≠0:=Bk.cap hB0 (h.so.sl b.j).1;have hM:=hw.mem.Sg0 h.ok (made:=(o.s.st b.j).made) hj Go0 hso j3 hc0 hC N5;have hs:sT p.n i b s1=W6 s1 b.j ⟨(s1.st b.j).held,(s1.st b.j).E5,(o.s.st b.j).l.filter fun x=>decide (x≠e),(o.s.st b.j).made,(o.s.st b.j).O0,(s1.st b.j).M3+1⟩:=by
    unfold sT;rw[hp];show W6 s1 b.j {s1.st b.j with l:=(s1.st b.j).l.filter _,M3:=_}=_;rw[b1]
   refine⟨s1,_,_,h.next hw (by rw[hs];exact hM) (hw.mem.leG hj) j3.tape j3.os j3.output,hw.le.trans (hw.mem.leG hj),⟨Nat.le_trans hg.goes.j4.size j3.size,fun x hxN hx hn hF'=>?_,j3.os.trans hg.goes.j4.os,j3.output.trans hg.goes.j4.output⟩,hw.L3,hw.so,rfl⟩;obtain⟨a1,d1⟩:=hg.goes.j4.j0 x hx hn hF';refine⟨(j3.block x (Nat.lt_of_lt_of_le hx hg.goes.j4.size) fun z=>d1 (by rw[hw.F,Option.some.inj z];exact SF.cl hj)).trans a1,fun z=>?_⟩;rw[hs]at z;rcases SF.Sg0 h.ok hj Go0 hso hca z with z|z|⟨y,hy,hya,z⟩
   ·exact d1 (by rw[hw.F];exact z)
   ·obtain⟨cur,_,hle,_⟩:=hO.row (by simp);have hle:N <=a:=hle;omega
   ·by_cases hy0:y=i0
    ·subst hy0;obtain⟨cur,_,hle,_⟩:=hI.row hya;omega
    ·obtain⟨t1,t2,t3⟩:=hsh y hy hy0;obtain⟨t4,t5⟩:=ym0 (u:=u0) (s':=s1) (r':=r1) h.mem hw.le hj hy;refine d1 ?_;rw[hw.F,z,t1,<- t4,<- b1];exact SF.inn hj (by rw[b1];exact hy) (by rw[b1,t4,<- t1];exact hya)
end
theorem SF.Gn0 {p:W4} {m:Gm} {s s':E3} {r:o6} {z:Nat} (h:SF p m s' r z) (h1:s'.st=s.st) (h2:s'.en=s.en):SF p m s r z:=by
 unfold SF at h⊢;rw[h1,h2]at h;exact h
section
variable {p:W4}{fb:Nat->FuncId}{q:PR (S0 p)}{L2:World}{i cb:Nat}{top:List Frame}{m:Gm}{w:World}{o:k6 E3 Lb}{k:Nat}{r:o6}{b:Lb}
theorem fn1 (h:SAt p fb q L2 i cb top m w o k r) (hk:k=o.nts.length) (hf:o.N1= .inl b) (hp:b.ph= .make) {a c N nu b0 lm lt cn:Nat} {sa:Value} {ia:Nat->Option Addr} {ic:Nat->Nat} (hN:p.B <=N) (_hNw:N <=w.heap.size) (hnu:nu=b.j+(o.s.st b.j).made*p.n) (N2:b.q.size <=1000000000000)
  (hE:K0 w b0 #[.string b.q,.int .i64 (nu:Nat),.pointer (some ⟨lm,0,none⟩),.pointer (some ⟨cn,0,none⟩)] 127) (hM:K0 w lm #[.iface 242 (.pointer (some ⟨lt,0,none⟩))] 187)
  (hL:K0 w lt #[.int .i64 (oW p.obj 2),.int .i64 (nu:Nat),.bool false,.int .i64 0] 244) (hC9:K0 w cn #[.int .i64 (oW p.obj 3),.int .i64 (nu:Nat),.pointer (some ⟨p.wb,0,none⟩),.int .i64 1,sa] 191)
  (hlo:N <=b0/\N <=lm/\N <=lt/\N <=cn) (hnf:¬SF p m o.s r b0/\¬SF p m o.s r lm/\¬SF p m o.s r lt/\¬SF p m o.s r cn)
  (hB:Bk w N (wn (o.s.st b.j).O0 (o.s.st b.j).l.length) (some ⟨a,0,none⟩) c (at_ (o3 r.ky b0 b.q) (wn (o.s.st b.j).O0 (o.s.st b.j).l.length) ((o.s.st b.j).l.map (eb m) ++ [b0])) ia ic) (hpr:∀x,BkF (wn (o.s.st b.j).O0 (o.s.st b.j).l.length) a ia x->¬SF p m o.s r x) :
  @Calls prog (I0 (B3 p fb q L2 i cb top)) 56 #[.pointer (some ⟨p.cl b.j,0,none⟩),.pointer (some ⟨cb,0,none⟩),.agg #[.slice (some ⟨a,0,none⟩) (wn (o.s.st b.j).O0 (o.s.st b.j).l.length) c,.int .i64 (((o.s.st b.j).l.length+1:Nat):Int),.int .i64 (((o.s.st b.j).made+1:Nat):Int)]] w (om0 p fb q L2 i cb top b N m w o.s r fun v s1 m1 _ _=>v= .tuple #[]/\eb m1 s1.en.length=b0):=by
 refine U77 ?_;intro hj hT;have S2:(B3 p fb q L2 i cb top).stp b=⟨9,oW p.obj 1,(b.j:Nat)⟩:=by
  show u9 p.obj b=_;unfold u9;rw[hp]
 have hrd:∀s,(B3 p fb q L2 i cb top).rdy b s=true:=fun s=>by
  show Z5 b s=true;unfold Z5;rw[hp]
 refine @Calls.mono _ (I0 _) _ _ _ _ _ (Il0 h.kok (p.cl b.j) p.wb (oW p.obj 1) b.j _ _ _ _ _ _ _ _ _ _ w hT S2 hrd (h.mem.rob h.ok.hW) (h.mem.cl b.j hj) (fun u F' hg=>?_)) fun x u x9=>?_
 ·obtain⟨r1,hw⟩:=h.ib0 hg;exact⟨_,_,_,_,_,hw.mem.cl b.j hj⟩
 ·cases x with
  |outgrown=>exact x9
  |panicked ch=>exact x9
  |returned v=>
   obtain⟨rfl,u0,F',hg,hC,j3⟩:=x9;obtain⟨r1,hw⟩:=h.ib0 hg.goes;generalize (S0 p).sAt q (gh u0 0)=s1 at hw;obtain⟨b1,b2⟩:=yk0 (h.L3 b hf) hw.L3 (by rw[hp];rfl);obtain⟨hB0,ub1⟩:=Bk.j4 hB hg.goes.j4.j0 hpr;have X7:=rf0 (n:=wn (o.s.st b.j).O0 (o.s.st b.j).l.length) h.mem hw.mem hw.le (h.so.l b.j) b2;obtain⟨hE0,hE1⟩:=hg.ai0 hE (by simp) hnf.1;obtain⟨hM0,hM1⟩:=hg.ai0 hM (by simp) hnf.2.1;obtain⟨hL0,hL1⟩:=hg.ai0 hL (by simp) hnf.2.2.1;obtain⟨hC0,hC1⟩:=hg.ai0 hC9 (by simp) hnf.2.2.2;rw[hw.F]at hE1 hM1 hL1 hC1;have hA:=hw.mem.db0 hw.so.l (x:=⟨b.q,nu,false,1⟩) N2 ⟨Nat.le_trans hN hlo.1,Nat.le_trans hN hlo.2.1,Nat.le_trans hN hlo.2.2.1,Nat.le_trans hN hlo.2.2.2⟩ hE0 hM0 hL0 hC0 ⟨hE1,hL1,hC1⟩;have nz1:=hw.mem.leN (b:=b0) (lm:=lm) (lt:=lt) (cn:=cn) (nu:=nu);have dd1:u0.grownBy u (some (p.cl b.j)):=j3;have y5:eb (bp0 (gm u0) s1.en.length b0 lm lt cn nu) s1.en.length=b0:=by unfold eb;rw[(oy0 _ _ _ _ _ _ _).1];rfl
   have Lb0:((o.s.st b.j).l ++ [s1.en.length]).map (eb (bp0 (gm u0) s1.en.length b0 lm lt cn nu))=(o.s.st b.j).l.map (eb m) ++ [b0]:=by
    rw[List.map_append,List.map_singleton,y5,<- X7.1];congr 1;refine List.map_congr_left fun e he=>?_;have J1:e<s1.en.length:=hw.so.l b.j e (by rw[b1];exact he);unfold eb;rw[(lu0 (gm u0) (Nat.ne_of_lt J1)).1]
   have hky:at_ (o3 r1.ky b0 b.q) (wn (o.s.st b.j).O0 (o.s.st b.j).l.length) ((o.s.st b.j).l.map (eb m) ++ [b0])=at_ (o3 r.ky b0 b.q) (wn (o.s.st b.j).O0 (o.s.st b.j).l.length) ((o.s.st b.j).l.map (eb m) ++ [b0]):=lv0 fun b' p7=>by
    by_cases e0:b'=b0
    ·subst e0;rw[Y0,Y0]
    ·rw[Z0 e0,Z0 e0];rcases List.mem_append.1 p7 with z|z
     ·obtain⟨e,he,rfl⟩:=List.mem_map.1 z;have J1:=h.so.l b.j e he;obtain⟨l1,l2,_⟩:=b6 h.mem hw.mem hw.le J1;have h1:=(hw.mem.en e l1).ky;have h2:=(h.mem.en e J1).ky;rw[h2,<- b2 e he,<- h1,l2]
     ·exact absurd (List.mem_singleton.1 z) e0
   have N5:Bk u p.B (wn (o.s.st b.j).O0 (o.s.st b.j).l.length) (some ⟨a,0,none⟩) c (at_ (o3 r1.ky b0 b.q) (wn (o.s.st b.j).O0 (o.s.st b.j).l.length) (((o.s.st b.j).l ++ [s1.en.length]).map (eb (bp0 (gm u0) s1.en.length b0 lm lt cn nu)))) ia ic:=by
    rw[Lb0,hky];exact(hB0.other j3 (hw.mem.cl b.j hj) ⟨by decide,by decide⟩).down hN
   have hwn:=fh1 (h.so.sl b.j).1 (h.so.sl b.j).2 (h.so.ll b.j);have Go0:wn (o.s.st b.j).O0 (o.s.st b.j).l.length <=256:=by have h8:=h.so.re0 h.ok;have h9:=hwn.2;omega
   have hso:∀j,((db0 s1 ⟨b.q,nu,false,1⟩).st j).O0 <=256:=fun j=>by
    have h8:=hw.so.re0 h.ok;have h9:=(hw.so.sl j).2;show(s1.st j).O0 <=256;omega
   have hca:=fun i hi=>fl0 (N5.inn i hi);have hM2:=hA.Sg0 h.ok (made:=(o.s.st b.j).made+1) (l:=(o.s.st b.j).l ++ [s1.en.length]) hj Go0 hso j3 (Bk.cap hB hwn.1) (by rw[List.length_append];exact hC) N5;have hs1:(sT p.n i b s1).st=(W6 (db0 s1 ⟨b.q,nu,false,1⟩) b.j ⟨((db0 s1 ⟨b.q,nu,false,1⟩).st b.j).held,((db0 s1 ⟨b.q,nu,false,1⟩).st b.j).E5,(o.s.st b.j).l ++ [s1.en.length],(o.s.st b.j).made+1,wn (o.s.st b.j).O0 (o.s.st b.j).l.length,((db0 s1 ⟨b.q,nu,false,1⟩).st b.j).M3+1⟩).st:=by
    unfold sT;rw[hp];show o3 s1.st b.j {s1.st b.j with l:=(s1.st b.j).l ++ [s1.en.length],made:=(s1.st b.j).made+1,O0:=wn (s1.st b.j).O0 (s1.st b.j).l.length,M3:=(s1.st b.j).M3+1}=o3 s1.st b.j ⟨(s1.st b.j).held,(s1.st b.j).E5,_,_,_,(s1.st b.j).M3+1⟩;rw[b1]
   have hs2:(sT p.n i b s1).en=(W6 (db0 s1 ⟨b.q,nu,false,1⟩) b.j ⟨((db0 s1 ⟨b.q,nu,false,1⟩).st b.j).held,((db0 s1 ⟨b.q,nu,false,1⟩).st b.j).E5,(o.s.st b.j).l ++ [s1.en.length],(o.s.st b.j).made+1,wn (o.s.st b.j).O0 (o.s.st b.j).l.length,((db0 s1 ⟨b.q,nu,false,1⟩).st b.j).M3+1⟩).en:=by
    unfold sT;rw[hp];show s1.en ++ [⟨b.q,b.j+(s1.st b.j).made*p.n,false,1⟩]=s1.en ++ [⟨b.q,nu,false,1⟩];rw[b1,hnu]
   have at0:=hA.leG (a:=a) (c:=c) (ia:=ia) (ic:=ic) hj;refine⟨s1,_,_,h.next hw (hM2.Gn0 hs1 hs2) (nz1.trans at0) j3.tape j3.os j3.output,hw.le.trans (nz1.trans at0),⟨Nat.le_trans hg.goes.j4.size j3.size,fun x hxN hx hn hF'=>?_,j3.os.trans hg.goes.j4.os,j3.output.trans hg.goes.j4.output⟩,hw.L3,hw.so,rfl,?_⟩
   ·obtain⟨a1,d1⟩:=hg.goes.j4.j0 x hx hn hF';refine⟨(j3.block x (Nat.lt_of_lt_of_le hx hg.goes.j4.size) fun z=>d1 (by rw[hw.F,Option.some.inj z];exact SF.cl hj)).trans a1,fun z=>?_⟩;rcases SF.Sg0 h.ok hj Go0 hso hca (z.Gn0 hs1 hs2)with z|z
    ·rcases SF.db0 (x:=⟨b.q,nu,false,1⟩) z with z|z
     ·exact d1 (by rw[hw.F];exact z)
     ·omega
    ·have:=Bk.low hB z;omega
   ·unfold eb at y5⊢;rw[Iy0];exact y5
end
structure Tn (p:W4) (fb:Nat->FuncId) (q:PR (S0 p)) (L2:World) (i cb:Nat) (top:List Frame) (N:Nat) (m0:Gm) (w0:World) (F0:Nat->Prop) (m:Gm) (w:World) (o:k6 E3 Lb) (k:Nat) (r:o6):Prop where
 at_:SAt p fb q L2 i cb top m w o k r
 le:LeG m0 m
 c6:Prv N w0 F0 w (SF p m o.s r)
theorem Prv.refl (N:Nat) (w:World) (F:Nat->Prop):Prv N w F w F:=⟨Nat.le_refl _,fun _ _ _ _ h=>⟨rfl,h⟩,rfl,rfl⟩
section
variable {p:W4}{fb:Nat->FuncId}{q:PR (S0 p)}{L2:World}{i cb:Nat}{top:List Frame}{N:Nat}{m0 m m1:Gm}{w0 w w' u:World}{F0:Nat->Prop}{o:k6 E3 Lb}{k:Nat}{r r1:o6}{b:Lb}{s1:E3}
theorem Tn.start (h:SAt p fb q L2 i cb top m w o k r):Tn p fb q L2 i cb top w.heap.size m w (SF p m o.s r) m w o k r:=⟨h,LeG.refl _,Prv.refl _ _ _⟩
theorem Tn.j0 (h:Tn p fb q L2 i cb top N m0 w0 F0 m w o k r) (hb:Below w.heap.size w w'):Tn p fb q L2 i cb top N m0 w0 F0 m w' o k r :=
 ⟨h.at_.j0 hb,h.le,Nat.le_trans h.c6.size hb.size,fun b hN hl hn hF=>by
  obtain⟨a,c⟩:=h.c6.j0 b hN hl hn hF;exact⟨(hb.block b (Nat.lt_of_lt_of_le hl h.c6.size)).trans a,c⟩,hb.os.trans h.c6.os,hb.output.trans h.c6.output⟩
theorem Tn.go {N':Nat} (h:Tn p fb q L2 i cb top N m0 w0 F0 m w o k r) (hN:N <=N') (h1:SAt p fb q L2 i cb top m1 u (A4 p.n (p.bo i) i b s1) 0 r1) (h2:LeG m m1) (h3:Prv N' w (SF p m o.s r) u (SF p m1 (sT p.n i b s1) r1)):Tn p fb q L2 i cb top N m0 w0 F0 m1 u (A4 p.n (p.bo i) i b s1) 0 r1 :=
 ⟨h1,h.le.trans h2,by rw[rd0];exact h.c6.trans (h3.down hN)⟩
theorem Tn.tb (h:Tn p fb q L2 i cb top N m0 w0 F0 m w o k r):K0 w p.tb (arr 131 (ak0 p.wb p.obj p.n p.rw p.cl p.n p.n)) 92:=h.at_.mem.rob h.at_.ok.hT
theorem Xl0 {n:Nat} (hn:0<n) {ky:Nat->ByteArray} {l:List Nat} (q:ByteArray):fnd ky (at_ ky n l (slot n q)) q=fnd ky l q:=by
 unfold fnd at_
 rw[List.find?_filter];congr 1;funext x;by_cases h:ky x=q
 ·simp[h]
 ·simp[h]
theorem W3.find (h:W3 p m w o.s r) (hso:SOk p.n p.m (ue0 p) o.s) {j:Nat} (q:ByteArray):fnd r.ky (at_ r.ky (o.s.st j).O0 ((o.s.st j).l.map (eb m)) (slot (o.s.st j).O0 q)) q=(bo0 o.s j q).map (eb m):=by
 rw[Xl0 (hso.sl j).1];unfold fnd bo0;rw[List.find?_map];congr 1;have key:∀l:List Nat,(∀e∈l,e<o.s.en.length)->l.find? ((fun b=>decide (r.ky b=q)) ∘ eb m)=l.find? (fun e=>decide ((gE o.s e).key=q)):=fun l hl=>by
  induction l with
  |nil=>rfl
  |cons x l ih=>
   have hx:r.ky (eb m x)=(gE o.s x).key:=(h.en x (hl x (List.mem_cons_self ..))).ky;rw[List.find?_cons,List.find?_cons];simp only[Function.comp,hx];rw[ih fun e he=>hl e (List.mem_cons_of_mem _ he)]
 exact key _ (hso.l j)
theorem W3.zw0 (h:W3 p m w o.s r) (hso:SOk p.n p.m (ue0 p) o.s) {j:Nat}:as0 w r.ky ((o.s.st j).l.map (eb m)):=⟨fun b hb=>by
 obtain⟨e,he,rfl⟩:=List.mem_map.1 hb;have hE:=h.en e (hso.l j e he);have h1:=hE.hE;unfold enC at h1;rw[<- hE.ky]at h1;exact⟨by rw[hE.ky];exact hE.sz,_,_,_,h1⟩⟩
end
theorem Dm0 {P:Program} [Ctx P] {ρ:Operand->Value} {w:World} {d:Option Nat} {ty:TypeId} {ps:String} {af:Array Edge} {g:Option (Nat×Bool)} {fn:Fn} {x:Operand} {v:Value} (h:ρ x=v):Does P (execOp ρ ⟨d,.makeFunc fn #[x] #[],ty,ps,af,g⟩) w (.val (.func fn #[v] #[])) w:=by
 have h1:=jx0 (P:=P) (ρ:=ρ) (w:=w) (d:=d) (ty:=ty) (ps:=ps) (af:=af) (g:=g) (fn:=fn) (xs:=#[x]) (ys:=#[]);simpa [h]using h1
theorem Sl0 {n i:Nat} {ops:List SOp} {lb:Lb} {s:E3} (hp:lb.ph= .j5):A4 n ops i lb s=⟨W6 s lb.j {s.st lb.j with E5:=(s.st lb.j).E5+1},[],.inl {lb with ph:=.look}⟩:=by unfold A4;rw[hp]
theorem Sm0 {n i e:Nat} {ops:List SOp} {lb:Lb} {s:E3} (hp:lb.ph= .look) (hf:bo0 s lb.j lb.q=some e):A4 n ops i lb s=⟨s,[],.inl {lb with ph:=.more e,nu:=(gE s e).num}⟩:=by unfold A4;rw[hp];simp only[hf]
theorem Sn0 {n i:Nat} {ops:List SOp} {lb:Lb} {s:E3} (hp:lb.ph= .look) (hf:bo0 s lb.j lb.q=none):A4 n ops i lb s=⟨s,[],.inl {lb with ph:=.ep0}⟩:=by unfold A4;rw[hp];simp only[hf]
theorem Xm0 {n i e:Nat} {ops:List SOp} {lb:Lb} {s:E3} (hp:lb.ph= .more e):A4 n ops i lb s=⟨D8 s e 1,[],.inl {lb with ph:=.run e}⟩:=by unfold A4;rw[hp]
theorem fo1 {n i e:Nat} {ops:List SOp} {lb:Lb} {s:E3} (hp:lb.ph= .run e):A4 n ops i lb s=P6 n (ops.drop lb.k) lb.k (o3 lb.has lb.to (some e)) (W6 s lb.j {s.st lb.j with E5:=(s.st lb.j).E5-1}) []:=by unfold A4;rw[hp]
theorem Xn0 {n i:Nat} {ops:List SOp} {lb:Lb} {s:E3} (hp:lb.ph= .ep0):A4 n ops i lb s=⟨W6 s lb.j {s.st lb.j with E5:=(s.st lb.j).E5-1},[],.inl {lb with ph:=.lck}⟩:=by unfold A4;rw[hp]
section
variable {P:Program}[Ctx P]{Z:Goroutine->World->Prop}{b:Frame}{k:List Item}{cs:List Frame}{n:Nat}{e:Env}{w:World}{ops:Array Oper}
theorem Xo0 {D:B4} (hZ:Ctx.Zs P Z) (hb:b.kind≠.early) (hro:b.roundOf=none) {i:Nat} {rest:List Nat} {ty:TypeId} {ps:String} {af:Array Edge} {x y:Operand} {ats:Array TypeId} {a v:Value} {f:FuncId} (ho:ops[i]? =some ⟨none,.defer {callee:=.value x,args:=#[y],argTypes:=ats},ty,ps,af,none⟩) (hx:ev e x= .func (.func f) #[a] #[]) (hy:ev e y=v)
  (h:@ZA (D.push {target:=.fn (.func f) #[],args:=#[a,v]}) Z n b cs e (.inRegion ops rest::k) w):@ZA D Z n b cs e (.inRegion ops (i::rest)::k) w:=by
 have e1:(#[a] ++ #[v]:Array Value)=#[a,v]:=by simp
 refine ZA.fj1 hZ hb hro (vs:=#[v]) (bs:=#[a]) ho hx (by simp[hy]) ?_;rw[e1];exact h
end
section
variable {p:W4}{fb:Nat->FuncId}{q:PR (S0 p)}{L2:World}{i cb:Nat}{top:List Frame}{w u:World}{j:Nat}
theorem So0 (h:A5 p) (hj:j<p.n) (hh:K8 (B3 p fb q L2 i cb top) w u):@CallsD prog (I0 (B3 p fb q L2 i cb top)) 103 #[.pointer (some ⟨p.rw j,0,none⟩),.pointer (some ⟨cb,0,none⟩)] u (bv0 u):=by
 obtain⟨F',r1,-,hM⟩:=hh.inv;exact Ah0 (Sys.kok (tz0 h)) _ _ _ _ _ _ u hh.g2 (hM.rob (h.hR j hj)) (hM.lk j hj)
theorem Sp0 (h:A5 p) (hj:j<p.n) (hh:K8 (B3 p fb q L2 i cb top) w u):@CallsD prog (I0 (B3 p fb q L2 i cb top)) 53 #[.pointer (some ⟨p.rw j,0,none⟩),.pointer (some ⟨cb,0,none⟩)] u (bv0 u):=by
 obtain⟨F',r1,-,hM⟩:=hh.inv;exact Dj0 (Sys.kok (tz0 h)) _ _ _ _ _ _ u hh.g2 (hM.rob (h.hR j hj)) (hM.lk j hj)
theorem Sq0 {Z:Goroutine->World->Prop} {n:Nat} {b:Frame} {cs:List Frame} {ch:List PanicEntry} {e:Env} {D:B4} (h:A5 p) (hj:j<p.n) (hZ:@Ctx.Zs prog (I0 (B3 p fb q L2 i cb top)) Z) (l7:m6 ch) (hh:K8 (B3 p fb q L2 i cb top) w u) (hk:∀ch' u',m6 ch'->K8 (B3 p fb q L2 i cb top) w u'->@ZP D Z n b cs ch' e u') :
  @ZP (D.push {target:=.fn (.func 103) #[],args:=#[.pointer (some ⟨p.rw j,0,none⟩),.pointer (some ⟨cb,0,none⟩)]}) Z n b cs ch e u:=by
 letI:Ctx prog:=I0 (B3 p fb q L2 i cb top);refine ZP.defer (R:=bv0 u) hZ func103 Oo0 rfl l7 ?_ (fun v w' hx=>hx.elim) (fun ch' w' hx=>hk _ _ (m6.app l7 hx.1) (hh.grow (Sys.kok (tz0 h)) hx.2.1 hx.2.2)) (fun w' hx=>hx.elim);simpa using So0 h hj hh
theorem nd0 {Z:Goroutine->World->Prop} {n:Nat} {b:Frame} {cs:List Frame} {ch:List PanicEntry} {e:Env} {D:B4} (h:A5 p) (hj:j<p.n) (hZ:@Ctx.Zs prog (I0 (B3 p fb q L2 i cb top)) Z) (l7:m6 ch) (hh:K8 (B3 p fb q L2 i cb top) w u) (hk:∀ch' u',m6 ch'->K8 (B3 p fb q L2 i cb top) w u'->@ZP D Z n b cs ch' e u') :
  @ZP (D.push {target:=.fn (.func 53) #[],args:=#[.pointer (some ⟨p.rw j,0,none⟩),.pointer (some ⟨cb,0,none⟩)]}) Z n b cs ch e u:=by
 letI:Ctx prog:=I0 (B3 p fb q L2 i cb top);refine ZP.defer (R:=bv0 u) hZ func53 Fg0 rfl l7 ?_ (fun v w' hx=>hx.elim) (fun ch' w' hx=>hk _ _ (m6.app l7 hx.1) (hh.grow (Sys.kok (tz0 h)) hx.2.1 hx.2.2)) (fun w' hx=>hx.elim);simpa using Sp0 h hj hh
end
set_option maxHeartbeats 1000000 in
theorem Sr0 {p:W4} {fb:Nat->FuncId} {q:PR (S0 p)} {L2:World} {i cb:Nat} {top:List Frame} {m:Gm} {w0:World} {o:k6 E3 Lb} {k:Nat} {r:o6} {lb:Lb} (h:SAt p fb q L2 i cb top m w0 o k r) (hk:k=o.nts.length) (hf:o.N1= .inl lb) (hp:lb.ph= .j5) (hjq:M9 p.n lb.q=lb.j) (hqs:lb.q.size <=1000000000000) :
  @Calls prog (I0 (B3 p fb q L2 i cb top)) 58 #[.pointer (some ⟨p.tb,0,none⟩),.pointer (some ⟨cb,0,none⟩),.string lb.q] w0 (A3 (B3 p fb q L2 i cb top) w0 fun v u=>∃m1 o1 r1,Tn p fb q L2 i cb top w0.heap.size m w0 (SF p m o.s r) m1 u o1 0 r1 /\
   ((∃e s',v= .tuple #[.pointer (some ⟨eb m1 e,0,none⟩),.bool true]/\o1=P6 p.n ((p.bo i).drop lb.k) lb.k (o3 lb.has lb.to (some e)) s' []/\e<s'.en.length)\/(∃s',v= .tuple #[.pointer none,.bool false]/\o1=⟨s',[],.inl {lb with ph:=.lck}⟩))):=by
 letI:Ctx prog:=I0 (B3 p fb q L2 i cb top);refine B8 (n:=54) func58 rfl rfl fun Z hZ cs L5=>?_;have hb:(base 58).kind≠.early:=by decide
 have hN:=Tn.start h;have hj:=(h.L3 lb hf).j;have hok:=h.ok;have hn0:=h.ok.n.1;have Ld0:=h.ok.n.2;refine U4 ?_;refine L.va (dr0 rfl) ?_;refine U34 ?_;refine U12 ?_;refine U415 ?_;rintro _ w9 ⟨rfl,hw9⟩;rw[hw9,hjq];clear hw9 w9;refine U215 ?_;refine U97 ?_;refine U324 ?_;refine L.Y2 rfl (P2 rfl rfl func102 rfl ko1 rfl) (Xi0 hN.at_ hk hf hp) ?_ ?_ (fun _ h=>h)
 ·rintro v w ⟨s1,m1,r1,g1,g2,g3,g4,g5,rfl⟩;have hN:=hN.go hN.c6.size g1 g2 g3;rw[Sl0 hp]at hN;clear g1 g2 g3;refine U137 ?_;refine U22 ?_;refine U218 ?_;refine U303 ?_;refine U11 ?_;refine ZA.upto hZ hb 2 rfl rfl (R:=fun e' w'=>ZA _ _ _ _ e' _ w') ?_ (fun _ _ h=>h);refine U330 ?_;refine U299 ?_;letI D1:B4:=B4.push Mq0 {target:=.fn (.func 103) #[],args:=#[.pointer (some ⟨p.rw lb.j,0,none⟩),.pointer (some ⟨cb,0,none⟩)]};refine U47 ?_;refine U97 ?_;refine U171 ?_;refine U320 ?_;refine L.Y2 rfl (P2 rfl rfl func39 rfl Vk0 rfl) (Sj0 (b:={lb with ph:=.look}) hN.at_ rfl rfl (.inl rfl)) ?_ ?_ (fun _ h=>h)
  ·rintro v w ⟨s2,m2,r2,g1,g2,g3,g4,g5,rfl⟩;have hN:=hN.go hN.c6.size g1 g2 g3;cases hfd:bo0 s2 lb.j lb.q with
   |none=>
   ·rw[Sn0 (lb:={lb with ph:=.look}) rfl hfd]at hN;refine L.va v5 ?_;refine U76 ?_;intro hso hM hfi;rw[hfd]at hfi;refine U95 ?_;intro at0 hsl hll;rintro _ w ⟨rfl,G1⟩;rw[hfi];have hN:=hN.j0 G1;refine U243 ?_;refine U306 ?_;refine U9 ?_;refine ZA.seq hZ ?_;refine U65 ?_;refine U124 ?_;refine U4 ?_;refine L.va v5 ?_;refine L.va (bg0 rfl) ?_;refine L.va E7 ?_;refine U34 ?_;refine ZA.ret hZ ?_;have K3:=aw1 (b:={lb with ph:=.ep0}) hN.at_ rfl rfl (.inr rfl)
    refine ZR.defer hZ func103 Oo0 rfl (by simpa using K3) (fun v u hx=>?_) (fun ch u hx=>?_) (fun u hx=>hx)
    ·obtain⟨s4,m4,r4,g1,g2,g3,g4,g5,rfl⟩:=hx;have hN:=hN.go hN.c6.size g1 g2 g3;rw[Xn0 (lb:={lb with ph:=.ep0}) rfl]at hN;refine U495 ?_;exact⟨m4,_,r4,hN,.inr ⟨_,rfl,rfl⟩⟩
    ·exact ZP.leave rfl func58 L5 ⟨hx.1,hx.2.at hN.c6.os hN.c6.output⟩
   |some e=>
   ·rw[Sm0 (lb:={lb with ph:=.look}) rfl hfd]at hN;refine L.va v5 ?_;refine U76 ?_;intro hso hM hfi;rw[hfd]at hfi;refine U95 ?_;intro at0 hsl hll;rintro _ w ⟨rfl,G1⟩;rw[hfi];have hN:=hN.j0 G1;refine U243 ?_;refine U304 ?_;refine U9 ?_;refine ZA.seq hZ ?_;refine U65 ?_;refine U50 ?_;have he:=(hN.at_.L3 _ rfl).e e rfl;have hE:=hN.at_.mem.en e he
    refine U32 ?_;refine U10 ?_;refine U402 ?_;refine L.va (H3 rfl) ?_;refine L.Y2 rfl (r6 rfl rfl rfl func50 rfl cv1 rfl) (Sk0 (b:={lb with ph:=.more e,nu:=(gE s2 e).num}) hN.at_ rfl rfl (.inl rfl)) ?_ ?_ (fun _ h=>h)
    ·rintro v w ⟨s3,m3,r3,g1,g2,g3,g4,g5,rfl⟩;have hN:=hN.go hN.c6.size g1 g2 g3;rw[Xm0 (e:=e) (lb:={lb with ph:=.more e,nu:=(gE s2 e).num}) rfl]at hN;have Ss0:=g2 _ hE.g.1;clear g1 g3;refine U9 ?_;refine U12 ?_;refine L.va (bg0 rfl) ?_;refine L.va (dr0 rfl) ?_;refine U34 ?_;refine ZA.ret hZ ?_;have K3:=aw1 (b:={lb with ph:=.run e,nu:=(gE s2 e).num}) hN.at_ rfl rfl (.inl ⟨e,rfl⟩)
     refine ZR.defer hZ func103 Oo0 rfl (by simpa using K3) (fun v u hx=>?_) (fun ch u hx=>?_) (fun u hx=>hx)
     ·obtain⟨s4,m4,r4,g1,g2,g3,g4,g5,rfl⟩:=hx;have hN:=hN.go hN.c6.size g1 g2 g3;rw[fo1 (e:=e) (lb:={lb with ph:=.run e,nu:=(gE s2 e).num}) rfl]at hN;refine U495 ?_;have heb:eb m4 e=eb m2 e:=by
       have h9:=g2 (9*e) (by rw[Ss0];exact hE.g.1);unfold eb;rw[h9,Ss0]
      exact⟨m4,_,r4,hN,.inl ⟨e,_,by rw[heb];rfl,rfl,g4.e _ rfl⟩⟩
     ·exact ZP.leave rfl func58 L5 ⟨hx.1,hx.2.at hN.c6.os hN.c6.output⟩
    ·rintro ch u ⟨l7,hh⟩;exact Sq0 hok hj hZ l7 (hh.at hN.c6.os hN.c6.output) fun ch' u' h1 h2=>ZP.leave rfl func58 L5 ⟨h1,h2⟩
  ·rintro ch u ⟨l7,hh⟩;exact Sq0 hok hj hZ l7 (hh.at hN.c6.os hN.c6.output) fun ch' u' h1 h2=>ZP.leave rfl func58 L5 ⟨h1,h2⟩
 ·rintro ch u ⟨l7,hh⟩;exact ZP.leave rfl func58 L5 ⟨l7,hh.at hN.c6.os hN.c6.output⟩
theorem Tn.j6 {p:W4} {fb:Nat->FuncId} {q:PR (S0 p)} {L2:World} {i cb:Nat} {top:List Frame} {N:Nat} {m0 m:Gm} {w0 w w':World} {F0:Nat->Prop} {o:k6 E3 Lb} {k:Nat} {r:o6} (h:Tn p fb q L2 i cb top N m0 w0 F0 m w o k r) {b:Nat} (hg:w.grownBy w' (some b)) (hn:¬SF p m o.s r b) (hN:N <=b):Tn p fb q L2 i cb top N m0 w0 F0 m w' o k r :=
 ⟨h.at_.j6 hg hn,h.le,Nat.le_trans h.c6.size hg.size,fun c hc hl hx hF=>by
  obtain⟨a,d⟩:=h.c6.j0 c hc hl hx hF;exact⟨(hg.block c (Nat.lt_of_lt_of_le hl h.c6.size) fun e=>by cases e;omega).trans a,d⟩,hg.os.trans h.c6.os,hg.output.trans h.c6.output⟩
theorem Dn0 {n n':Nat} (h0:0<n) (h:n'=n\/n'=2*n) (k:ByteArray):slot n k=slot n' k%n:=by
 rcases h with rfl|rfl
 ·exact(Nat.mod_eq_of_lt (lp0 h0 k)).symm
 ·unfold slot;generalize hsh k/64=x;have h2:0 <=x%((2*n:Nat):Int):=Int.emod_nonneg _ (by omega);have e:(x%((2*n:Nat):Int))%(n:Int)=x%n:=Int.emod_emod_of_dvd x ⟨2,by omega⟩;rw[<- e,Int.toNat_emod h2 (by omega),Int.toNat_natCast]
theorem oa1 {ky:Nat->ByteArray} {n n':Nat} (h0:0<n) (h:n'=n\/n'=2*n) (l:List Nat):at_ ky n' (fl (at_ ky n l) n)=at_ ky n' l:=by
 funext j;have key:∀u,at_ ky n' (at_ ky n l u) j=if j%n=u then at_ ky n' l j else []:=fun u=>by
  unfold at_
  rw[List.filter_filter];split
  ·rename_i hu;refine List.filter_congr fun b _=>?_;by_cases hb:slot n' (ky b)=j
   ·have:=Dn0 h0 h (ky b);rw[hb,hu]at this;simp[hb,this]
   ·simp[hb]
  ·rename_i hu;refine List.filter_eq_nil_iff.2 fun b _=>?_;have:=Dn0 h0 h (ky b);by_cases hb:slot n' (ky b)=j
   ·rw[hb]at this;simp[hb,this,hu]
   ·simp[hb]
 have gen:∀m,at_ ky n' (fl (at_ ky n l) m) j=if j%n<m then at_ ky n' l j else []:=fun m=>by
  induction m with
  |zero=>rfl
  |succ m ih=>
   rw[bb0];have e1:at_ ky n' (fl (at_ ky n l) m++at_ ky n l m) j=at_ ky n' (fl (at_ ky n l) m) j++at_ ky n' (at_ ky n l m) j:=by
    unfold at_;rw[List.filter_append]
   rw[e1,ih,key m];by_cases h1:j%n<m
   ·rw[if_pos h1,if_neg (by omega),if_pos (by omega),List.append_nil]
   ·rw[if_neg h1];by_cases h2:j%n=m
    ·rw[if_pos h2,if_pos (by omega)];rfl
    ·rw[if_neg h2,if_neg (by omega)];rfl
 rw[gen n,if_pos (Nat.mod_lt _ h0)]
theorem fp1 {ky:Nat->ByteArray} {n n':Nat} (h0:0<n) (h:n'=n\/n'=2*n) (l:List Nat) (b:Nat):at_ ky n' (fl (at_ ky n l) n ++ [b])=at_ ky n' (l ++ [b]):=by
 funext j;rw[Fx0,Fx0,oa1 h0 h l]
theorem ob1 (n k:Nat):wn n k=n\/wn n k=2*n:=by unfold wn;split;exact .inr rfl;exact .inl rfl
theorem Xp0 {ky:Nat->ByteArray} {n k b:Nat} {q:ByteArray} {L:List Nat} (h0:0<n) (hb:∀x∈L,x≠b):at_ (o3 ky b q) (wn n k) (fl (at_ ky n L) n ++ [b])=at_ (o3 ky b q) (wn n k) (L ++ [b]):=by
 have e:at_ (o3 ky b q) n L=at_ ky n L:=lv0 fun x hx=>Z0 (hb x hx)
 rw[<- e,fp1 h0 (ob1 n k)]
theorem fq1 {ky:Nat->ByteArray} {n:Nat} (l:List Nat):(fl (at_ ky n l) n).length <=n*l.length:=by
 have gen:∀m,(fl (at_ ky n l) m).length <=m*l.length:=fun m=>by
  induction m with
  |zero=>simp[fl]
  |succ m ih=>rw[bb0,List.length_append,Nat.succ_mul];exact Nat.add_le_add ih (oe0 ..)
 exact gen n
theorem oc1 {ky:Nat->ByteArray} {n:Nat} {l:List Nat} {b:Nat} (h:b∈fl (at_ ky n l) n):b∈l:=by
 obtain⟨j,_,hb⟩:=qx0.1 h;exact(List.mem_filter.1 hb).1
theorem fr1 {ky:Nat->ByteArray} {n i0 e:Nat} {f:Nat->Nat} {l:List Nat} (hf:∀x∈l,f x=f e->x=e):wo (at_ ky n (l.map f) i0) (f e)=at_ ky n ((l.filter fun x=>decide (x≠e)).map f) i0:=by
 unfold wo at_
 rw[List.filter_filter,List.filter_map,List.filter_map,List.filter_filter];congr 1;refine List.filter_congr fun x hx=>?_;show(decide (f x≠f e)&&decide (slot n (ky (f x))=i0))=(decide (slot n (ky (f x))=i0)&&decide (x≠e));rw[Bool.and_comm];congr 1;by_cases h:x=e
 ·subst h;simp
 ·have:f x≠f e:=fun z=>h (hf x hx z);simp[h,this]
theorem of0 {ky:Nat->ByteArray} {n j e:Nat} {f:Nat->Nat} {l:List Nat} (hj:j≠slot n (ky (f e))):at_ ky n ((l.filter fun x=>decide (x≠e)).map f) j=at_ ky n (l.map f) j:=by
 unfold at_
 rw[List.filter_map,List.filter_map,List.filter_filter];congr 1;refine List.filter_congr fun x _=>?_;show(decide (slot n (ky (f x))=j)&&decide (x≠e))=decide (slot n (ky (f x))=j);by_cases h:x=e
 ·subst h;simp[Ne.symm hj]
 ·simp[h]
theorem St0 {α β:Type} (f:α->β) {l:List α} (h:(l.map f).Nodup):l.Nodup:=List.Pairwise.of_map f (fun _ _ hn e=>hn (e▸rfl)) h
theorem ne0 {α β:Type} {f:α->β}:∀{l:List α},(l.map f).Nodup->∀x∈l,∀y∈l,f x=f y->x=y
 | [],_,_,hx,_,_,_=>by cases hx
 |a::l,h,x,hx,y,hy,e=>by
  rw[List.map_cons]at h;obtain⟨h1,h2⟩:=List.nodup_cons.1 h;rcases List.mem_cons.1 hx with h3|h3 <;> rcases List.mem_cons.1 hy with h4|h4
  ·exact h3.trans h4.symm
  ·exact(h1 (List.mem_map.2 ⟨y,h4,by rw[<- e,h3]⟩)).elim
  ·exact(h1 (List.mem_map.2 ⟨x,h3,by rw[e,h4]⟩)).elim
  ·exact ne0 h2 x h3 y h4 e
theorem fs1 {l:List Nat} {e:Nat} (h:l.Nodup) (he:e∈l):(l.filter fun x=>decide (x≠e)).length+1=l.length:=by
 have h1:(l.filter fun x=>decide (x≠e))=l.erase e:=by
  rw[List.Nodup.erase_eq_filter h];refine List.filter_congr fun x _=>?_;by_cases z:x=e <;> simp[z]
 rw[h1,List.length_erase_of_mem he];have:=List.length_pos_of_mem he;omega
theorem Xq0 {n m:Nat} {len:Nat->Nat} {s:E3} {j e:Nat} (hs:SOk n m len s) (he:e∈(s.st j).l):bo0 s j (gE s e).key=some e:=by
 cases hf:bo0 s j (gE s e).key with
 |none=>
  have:=List.find?_eq_none.1 hf e he;simp at this
 |some x=>
  have h1:=List.find?_some hf;have h2:=List.mem_of_find?_eq_some hf;have h3:(gE s x).key=(gE s e).key:=by simpa using h1
  rw[ne0 (hs.nd j) x h2 e he h3]
theorem og0 {s:E3} {e:Nat} {d:Int} (he:e<s.en.length):(gE (D8 s e d) e).K1=IntKind.i64.wrap ((gE s e).K1+d):=by unfold D8;rw[er0 he,if_pos rfl]
section
variable {p:W4}{fb:Nat->FuncId}{q:PR (S0 p)}{L2:World}{i cb:Nat}{top:List Frame}{N:Nat}{m0 m:Gm}{w0 w:World}{F0:Nat->Prop}{o:k6 E3 Lb}{k:Nat}{r:o6}
theorem Tn.Gs0 (h:Tn p fb q L2 i cb top N m0 w0 F0 m w o k r) {e:Nat} {y:ByteArray} (hg:m0 (9*e)≠0/\m0 (9*e+5)≠0) (hq:y=(gE o.s e).key):∃nm lm,K0 w (eb m0 e) #[.string y,.int .i64 nm,.pointer (some ⟨lm,0,none⟩),.pointer (some ⟨cnG m0 e,0,none⟩)] 127:=by
 have h1:=h.le _ hg.1;have h2:=h.le _ hg.2;have he:=h.at_.mem.dom (e:=e) (by rw[h1];exact hg.1)
 have hE:=(h.at_.mem.en e he).hE;have e1:eb m e=eb m0 e:=by unfold eb;rw[h1]
 have e2:cnG m e=cnG m0 e:=by unfold cnG;rw[h2]
 rw[e1]at hE;unfold enC at hE;rw[e2,<- hq]at hE;exact⟨_,_,hE⟩
theorem Tn.ebs (h:Tn p fb q L2 i cb top N m0 w0 F0 m w o k r) {e:Nat} (hg:m0 (9*e)≠0/\m0 (9*e+5)≠0):eb m e=eb m0 e/\cnG m e=cnG m0 e:=by
 unfold eb cnG;rw[h.le _ hg.1,h.le _ hg.2];exact⟨rfl,rfl⟩
theorem Tn.B (h:Tn p fb q L2 i cb top N m0 w0 F0 m w o k r):p.B <=w.heap.size :=
 Nat.le_trans (h.at_.ok.lo 0 h.at_.ok.n.1).2 (Nat.le_of_lt (P3 (h.at_.mem.cl 0 h.at_.ok.n.1)).lt)
end
section
variable {n i e:Nat}{ops:List SOp}{lb:Lb}{s:E3}
theorem Su0 (hp:lb.ph= .less e) (hz:(gE (D8 s e (-1)) e).K1=0):A4 n ops i lb s=⟨D8 s e (-1),[],.inl {lb with ph:=.ad0 e}⟩:=by unfold A4;rw[hp];simp only[hz];rfl
theorem Sv0 (hp:lb.ph= .less e) (hz:(gE (D8 s e (-1)) e).K1≠0):A4 n ops i lb s=P6 n (ops.drop lb.k) lb.k lb.has (D8 s e (-1)) []:=by unfold A4;rw[hp];simp only[if_neg hz]
theorem Xr0 (hp:lb.ph= .ad0 e):A4 n ops i lb s=⟨W6 s lb.j {s.st lb.j with held:=true},[],.inl {lb with ph:=.ae0 e}⟩:=by unfold A4;rw[hp]
theorem Sw0 (hp:lb.ph= .ae0 e) (h:e∈(s.st lb.j).l):A4 n ops i lb s=⟨s,[],.inl {lb with ph:=.K1 e,bs:=s.st lb.j,bk:=H7 s lb.j}⟩:=by unfold A4;rw[hp];simp only[if_pos h]
theorem Do0 (hp:lb.ph= .ae0 e) (h:e∉(s.st lb.j).l):A4 n ops i lb s=⟨s,[],.inl {lb with ph:=.R6 e}⟩:=by unfold A4;rw[hp];simp only[if_neg h]
theorem Le0 (hp:lb.ph= .K1 e) (h:(gE s e).K1=0):A4 n ops i lb s=⟨s,[],.inl {lb with ph:=.out e}⟩:=by unfold A4;rw[hp];simp only[if_pos h]
theorem Lf0 (hp:lb.ph= .K1 e) (h:(gE s e).K1≠0):A4 n ops i lb s=⟨s,[],.inl {lb with ph:=.R6 e}⟩:=by unfold A4;rw[hp];simp only[if_neg h]
theorem ft1 (hp:lb.ph= .out e):A4 n ops i lb s=⟨Ab0 s lb.j e,[],.inl {lb with ph:=.R6 e}⟩:=by unfold A4;rw[hp]
theorem oz0 (hp:lb.ph= .R6 e):A4 n ops i lb s=P6 n (ops.drop lb.k) lb.k lb.has (W6 s lb.j {s.st lb.j with held:=false}) []:=by unfold A4;rw[hp]
theorem Sx0 (hp:lb.ph= .n5 e):A4 n ops i lb s=P6 n (ops.drop lb.k) lb.k lb.has (A8 s e {gE s e with held:=true}) []:=by unfold A4;rw[hp]
theorem Gt0 (hp:lb.ph= .W2 e):A4 n ops i lb s=P6 n (ops.drop lb.k) lb.k lb.has (A8 s e {gE s e with held:=false}) []:=by unfold A4;rw[hp]
end
theorem fu1 {n i:Nat} {ops:List SOp} {lb:Lb} {s:E3} (hp:lb.ph= .lck):A4 n ops i lb s=⟨W6 s lb.j {s.st lb.j with held:=true},[],.inl {lb with ph:=.cd0}⟩:=by unfold A4;rw[hp]
theorem Sy0 {n i e:Nat} {ops:List SOp} {lb:Lb} {s:E3} (hp:lb.ph= .cd0) (hf:bo0 s lb.j lb.q=some e):A4 n ops i lb s=⟨s,[],.inl {lb with ph:=.z6 e,nu:=(gE s e).num}⟩:=by unfold A4;rw[hp];simp only[hf]
theorem Sz0 {n i:Nat} {ops:List SOp} {lb:Lb} {s:E3} (hp:lb.ph= .cd0) (hf:bo0 s lb.j lb.q=none):A4 n ops i lb s=⟨s,[],.inl {lb with ph:=.make,bs:=s.st lb.j,bk:=H7 s lb.j}⟩:=by unfold A4;rw[hp];simp only[hf]
theorem Ta0 {n i e:Nat} {ops:List SOp} {lb:Lb} {s:E3} (hp:lb.ph= .z6 e):A4 n ops i lb s=⟨D8 s e 1,[],.inl {lb with ph:=.unl e}⟩:=by unfold A4;rw[hp]
theorem Xs0 {n i:Nat} {ops:List SOp} {lb:Lb} {s:E3} (hp:lb.ph= .make):A4 n ops i lb s=⟨an0 n i lb s,[],.inl {lb with ph:=.unl s.en.length}⟩:=by unfold A4;rw[hp]
theorem Tb0 {n i e:Nat} {ops:List SOp} {lb:Lb} {s:E3} (hp:lb.ph= .unl e):A4 n ops i lb s=P6 n (ops.drop lb.k) lb.k (o3 lb.has lb.to (some e)) (W6 s lb.j {s.st lb.j with held:=false}) []:=by unfold A4;rw[hp]
theorem Xt0 (x0:ByteArray) (x1:Int) (x2:Option Addr) (x3:Option Addr):prog.built 127 [(0,.string x0),(1,.int .i64 x1),(2,.pointer x2),(3,.pointer x3)]=some #[.string x0,.int .i64 x1,.pointer x2,.pointer x3]:=by kernel_rfl
set_option maxHeartbeats 1000000 in
theorem Xu0 {p:W4} {fb:Nat->FuncId} {q:PR (S0 p)} {L2:World} {i cb:Nat} {top:List Frame} {m:Gm} {w0:World} {o:k6 E3 Lb} {k:Nat} {r:o6} {lb:Lb} (h:SAt p fb q L2 i cb top m w0 o k r) (hk:k=o.nts.length) (hf:o.N1= .inl lb) (hp:lb.ph= .lck) (hjq:M9 p.n lb.q=lb.j) (hqs:lb.q.size <=1000000000000) :
  @Calls prog (I0 (B3 p fb q L2 i cb top)) 59 #[.pointer (some ⟨p.tb,0,none⟩),.pointer (some ⟨cb,0,none⟩),.string lb.q] w0 (A3 (B3 p fb q L2 i cb top) w0 fun v u=>∃m1 o1 r1,Tn p fb q L2 i cb top w0.heap.size m w0 (SF p m o.s r) m1 u o1 0 r1 /\
   ∃e s',v= .pointer (some ⟨eb m1 e,0,none⟩)/\o1=P6 p.n ((p.bo i).drop lb.k) lb.k (o3 lb.has lb.to (some e)) s' []/\e<s'.en.length):=by
 letI:Ctx prog:=I0 (B3 p fb q L2 i cb top);refine B8 (n:=102) func59 rfl rfl fun Z hZ cs L5=>?_;have hb:(base 59).kind≠.early:=by decide
 have hN:=Tn.start h;have hj:=(h.L3 lb hf).j;have hok:=h.ok;have hn0:=h.ok.n.1;have Ld0:=h.ok.n.2;refine U4 ?_;refine U121 ?_;refine U12 ?_;refine U415 ?_;rintro _ w9 ⟨rfl,hw9⟩;rw[hw9,hjq];clear hw9 w9;refine U215 ?_;refine U97 ?_;refine U324 ?_;refine L.Y2 rfl (P2 rfl rfl func52 rfl ke1 rfl) (av1 hN.at_ hk hf (.inl hp)) ?_ ?_ (fun _ h=>h)
 ·rintro v w ⟨s1,m1,r1,g1,g2,g3,g4,g5,rfl⟩;have hN:=hN.go hN.c6.size g1 g2 g3;rw[fu1 hp]at hN;clear g1 g2 g3;refine U137 ?_;refine U22 ?_;refine U218 ?_;refine U303 ?_;refine U11 ?_;refine ZA.upto hZ hb 2 rfl rfl (R:=fun e' w'=>ZA _ _ _ _ e' _ w') ?_ (fun _ _ h=>h);refine U330 ?_;refine U299 ?_;letI D1:B4:=B4.push Mq0 {target:=.fn (.func 53) #[],args:=#[.pointer (some ⟨p.rw lb.j,0,none⟩),.pointer (some ⟨cb,0,none⟩)]};refine U47 ?_;refine U97 ?_;refine U171 ?_;refine U320 ?_;refine L.Y2 rfl (P2 rfl rfl func39 rfl Vk0 rfl) (Sj0 (b:={lb with ph:=.cd0}) hN.at_ rfl rfl (.inr (.inl rfl))) ?_ ?_ (fun _ h=>h)
  ·rintro v w ⟨s2,m2,r2,g1,g2,g3,g4,g5,rfl⟩;have hN:=hN.go hN.c6.size g1 g2 g3;cases hfd:bo0 s2 lb.j lb.q with
   |none=>
   ·rw[Sz0 (lb:={lb with ph:=.cd0}) rfl hfd]at hN;refine U115 ?_;intro w b9 F9 Ai0;have lt9:w0.heap.size <=b9:=by have h9:=F9.here;have h8:=hN.c6.size;omega
    refine U142 ?_;intro hN C8;refine U106 ?_;intro w A1 hg N2 hN;have C8:=A1;clear A1 hg N2;refine U137 ?_;refine U363 ?_;refine U76 ?_;intro hso hM hfi;rw[hfd]at hfi;refine U95 ?_;intro at0 hsl hll;rintro _ w ⟨rfl,G1⟩;rw[hfi];refine U54 ?_;intro hN C8;refine U243 ?_;refine U306 ?_;refine U11 ?_;refine U65 ?_;refine U72 ?_;have hmd:(s2.st lb.j).made <=200:=Nat.le_trans (hso.made lb.j) at0;have hmn:(s2.st lb.j).made*p.n <=200*64:=Nat.mul_le_mul hmd Ld0;have hmul:IntKind.i64.wrap ((((s2.st lb.j).made:Nat):Int)*(p.n:Int))=(((s2.st lb.j).made*p.n:Nat):Int):=by rw[<- Int.natCast_mul,IntKind.wrap_i64];omega
    have Ay0:((lb.j:Nat):Int)+(((s2.st lb.j).made*p.n:Nat):Int)=((lb.j+(s2.st lb.j).made*p.n:Nat):Int):=by omega
    refine ZA.W hZ hb ?_;refine W.quiet (fun w'=>Below w.heap.size w w') (by kernel_rfl) (by kernel_rfl) ((Below.refl w.heap.size w).drew) ?_;refine D.va (fun w' L1=>(C4 rfl)) ?_;refine D.va (fun w' L1=>(B0 rfl underlying97 rfl sz3 (by decide))) ?_;refine D.va (fun w' L1=>(A0 rfl underlying3 rfl ((C8.j0 L1).q0 2 (v:=.int .i64 ((s2.st lb.j).made:Nat)) rfl))) ?_;refine U60 ?_;refine D.va (fun w' L1=>(B0 rfl underlying92 rfl sz3 (by decide))) ?_;refine D.va (fun w' L1=>(A0 (v:=.int .i64 (p.n:Int)) rfl underlying3 rfl (go0 (o:=2) (Tn.tb ((hN.j0 L1))) (by decide) rfl))) ?_;refine D.va (fun w' L1=>(hmul▸vx0 (m:=(((s2.st lb.j).made:Nat):Int)) (k:=(p.n:Int)) rfl rfl)) ?_;refine D.va (fun w' L1=>(Ay0▸eh0 (m:=((lb.j:Nat):Int)) (k:=(((s2.st lb.j).made*p.n:Nat):Int)) rfl rfl (by omega))) ?_;refine D.va (fun w' L1=>(gt0 rfl)) ?_;refine D.nil (fun w O2=>?_);have hN:=hN.j0 O2;have C8:=C8.j0 O2;clear O2;refine U91 ?_;refine U88 ?_;refine W.fl 24 [12,23] [0,1,2,3,4,5,6,7,8,9,10,11,13,14,15,16,17,18,19,20,21,22,12,23] (fun w'=>Tn p fb q L2 i cb top w0.heap.size m w0 (SF p m o.s r) m2 w' ⟨s2,[],.inl {lb with ph:=.make,bs:=s2.st lb.j,bk:=H7 s2 lb.j}⟩ 0 r2) (by kernel_rfl) (by kernel_rfl) (by kernel_rfl) (by kernel_rfl) (by kernel_rfl) (hN.j0 (Below.refl w.heap.size w).drew) ?_;refine U297 ?_;intro V3 hN;have C8:=C8.j0 V3;clear V3;generalize w.drew=w at *;refine F.va rfl rfl (fun w' L1=>(Mt0 rfl)) ?_;refine F.va rfl rfl (fun w' L1=>(C4 rfl)) ?_;refine U27 ?_;refine U380 ?_;refine U27 ?_;refine U375 ?_;refine U277 ?_;refine U27 ?_;refine U380 ?_;refine U27 ?_;refine U375 ?_;refine U277 ?_;refine F.doo rfl rfl ?_;refine L.call (r6 rfl rfl rfl func104 rfl kp1 rfl) (Rt0 p.wb (oW p.obj 2) ((lb.j+(s2.st lb.j).made*p.n:Nat):Int) _ (hN.at_.mem.rob hN.at_.ok.hW)) ?_;rintro _ w ⟨lm,lt,rfl,l1,l2,hMx,hLt,G1⟩;have n1:=hN.at_.fresh l1
    have n2:=hN.at_.fresh l2
    have z1:=Nat.le_trans hN.c6.size l1;have z2:=Nat.le_trans hN.c6.size l2;refine U54 ?_;intro hN C8;clear G1;refine L.nil ⟨rfl,hN,?_⟩;refine F.doo rfl rfl ?_;refine L.call (fz0 rfl rfl rfl rfl func105 rfl kq1 rfl) (Gf0 p.wb (oW p.obj 3) ((lb.j+(s2.st lb.j).made*p.n:Nat):Int) 1 _ (hN.at_.mem.rob hN.at_.ok.hW)) ?_;rintro _ w ⟨cn,sa,rfl,l3,hCn,G1⟩;have n3:=hN.at_.fresh l3
    have z3:=Nat.le_trans hN.c6.size l3;refine U54 ?_;intro hN C8;have hMx:=hMx.j0 G1;have hLt:=hLt.j0 G1;clear G1;refine L.nil ⟨rfl,hN,?_⟩;refine U8 ?_;refine L.va (G2 (parts:=[(0,.tmp 64),(1,.tmp 65),(2,.tmp 76),(3,.tmp 87)]) rfl (Xt0 lb.q ((lb.j+(s2.st lb.j).made*p.n:Nat):Int) ((some (⟨lm,0,none⟩))) ((some (⟨cn,0,none⟩))))) ?_;refine L.box (cs:=#[.string lb.q,.int .i64 ((lb.j+(s2.st lb.j).made*p.n:Nat):Int),.p lm,.p cn]) rfl rfl (fun w b89 F89=>?_);have uc1:=Nat.le_refl w.heap.size;have n89:=hN.at_.fresh (Nat.le_of_eq F89.here.symm)
    have z89:=Nat.le_trans hN.c6.size (Nat.le_of_eq F89.here.symm);have hN:=hN.j0 F89.below;have C8:=C8.j0 F89.below;have hMx:=hMx.j0 F89.below;have hLt:=hLt.j0 F89.below;have hCn:=hCn.j0 F89.below;have Lg0:=F89.blk;refine L.va (dr0 rfl) ?_;refine U11 ?_;refine ZA.code hZ hb ?_;refine W.fl 10 [9] [0,1,2,3,4,5,6,7,8,9] (fun w'=>Tn p fb q L2 i cb top w0.heap.size m w0 (SF p m o.s r) m2 w' ⟨s2,[],.inl {lb with ph:=.make,bs:=s2.st lb.j,bk:=H7 s2 lb.j}⟩ 0 r2/\K0 w' b9 #[.slice (some ⟨va m2 lb.j (s2.st lb.j).M3,0,none⟩) ((s2.st lb.j).O0) (vc m2 lb.j (s2.st lb.j).M3),.int .i64 ((s2.st lb.j).l.length:Nat),.int .i64 ((s2.st lb.j).made:Nat)] 97) (by kernel_rfl) (by kernel_rfl) (by kernel_rfl) (by kernel_rfl) (by kernel_rfl) (⟨hN.j0 (Below.refl w.heap.size w).drew,C8.j0 (Below.refl w.heap.size w).drew⟩) ?_;refine U297 ?_;intro V3 hN;have C8:=C8.j0 V3;have hMx:=hMx.j0 V3;have hLt:=hLt.j0 V3;have hCn:=hCn.j0 V3;have Lg0:=Lg0.j0 V3;clear V3;generalize w.drew=w at *;refine U62 ?_;refine U270 ?_;refine U515 ?_;refine F.va rfl rfl (fun w' L1=>(D2 (cs:=[.slice (some ⟨va m2 lb.j (s2.st lb.j).M3,0,none⟩) ((s2.st lb.j).O0) (vc m2 lb.j (s2.st lb.j).M3),.int .i64 ((s2.st lb.j).l.length:Nat),.int .i64 ((s2.st lb.j).made:Nat)]) rfl underlying97 rfl o8 rfl (L1.2.T6 rfl))) ?_;refine U485 ?_;have hso:=hN.at_.so
    have hM:=hN.at_.mem
    have hsl:=hso.sl lb.j;have hll:=hso.ll lb.j;have Xv0:∀x∈((s2.st lb.j).l.map (eb m2)),x≠b89:=fun x hx hxe=>by
     obtain⟨y,hy,hy2⟩:=List.mem_map.1 hx;exact n89 (by rw[<- hxe,<- hy2];exact SF.eb (hso.l _ _ hy))
    have ax1:as0 w (o3 r2.ky b89 lb.q) (fl (at_ r2.ky (s2.st lb.j).O0 ((s2.st lb.j).l.map (eb m2))) (s2.st lb.j).O0 ++ [b89]):=⟨fun b hb=>by
     rcases List.mem_append.1 hb with h9|h9
     ·have h8:=oc1 h9;obtain⟨hz1,hz2⟩:=(hM.zw0 hso).all b h8;have h7:o3 r2.ky b89 lb.q b=r2.ky b:=Z0 (Xv0 b h8);rw[<- h7]at hz1 hz2;exact⟨hz1,hz2⟩
     ·rw[List.mem_singleton]at h9;subst h9;have h7:o3 r2.ky b lb.q b=lb.q:=Y0;exact⟨by rw[h7];exact hqs,_,_,_,by rw[h7];exact Lg0⟩⟩
    have sy1:(fl (at_ r2.ky (s2.st lb.j).O0 ((s2.st lb.j).l.map (eb m2))) (s2.st lb.j).O0).length <=900000:=Nat.le_trans (fq1 _) (by rw[List.length_map];exact Nat.le_trans (Nat.mul_le_mul (Nat.le_trans hsl.2 (Nat.succ_le_succ at0)) (Nat.le_trans hll at0)) (by decide));have ta1:0<wn (s2.st lb.j).O0 (s2.st lb.j).l.length:=(fh1 hsl.1 hsl.2 hll).1;refine L.call (P2 rfl rfl func106 rfl kr1 rfl) (ey1 (o3 r2.ky b89 lb.q) p.B (s2.st lb.j).O0 (vc m2 lb.j (s2.st lb.j).M3) (s2.st lb.j).l.length (some ⟨va m2 lb.j (s2.st lb.j).M3,0,none⟩) _ (at_ r2.ky (s2.st lb.j).O0 ((s2.st lb.j).l.map (eb m2))) (iaG m2 lb.j (s2.st lb.j).M3) (icG m2 lb.j (s2.st lb.j).M3) b89 hsl.1 (Nat.le_trans hsl.2 (Nat.le_trans (Nat.succ_le_succ at0) (by decide))) (Nat.le_trans hll (Nat.le_trans at0 (by decide))) sy1 _ hN.B (hM.bk lb.j hj) ax1) ?_;rintro _ w ⟨a1,c1,ia1,ic1,rfl,hBk,G1⟩;obtain⟨a1,rfl⟩:=qz0 hBk.out ta1;have hf1:∀x,BkF (wn (s2.st lb.j).O0 (s2.st lb.j).l.length) a1 ia1 x->¬SF p m2 s2 r2 x:=fun x hx=>hN.at_.fresh (hBk.low hx)
    have hBk:=hBk.down hN.c6.size;rw[Xp0 hsl.1 Xv0]at hBk;clear ax1 hM;refine U54 ?_;intro hN C8;have hMx:=hMx.j0 G1;have hLt:=hLt.j0 G1;have hCn:=hCn.j0 G1;have Lg0:=Lg0.j0 G1;clear G1;have e19:(((s2.st lb.j).l.length:Nat):Int)+1=(((s2.st lb.j).l.length+1:Nat):Int):=by omega
    have e29:IntKind.i64.wrap ((((s2.st lb.j).made:Nat):Int)+1)=(((s2.st lb.j).made+1:Nat):Int):=by rw[IntKind.wrap_i64];omega
    rw[e19,e29];refine L.nil ⟨rfl,⟨hN,C8⟩,?_⟩;refine U8 ?_;refine L.Y2 rfl (r6 rfl rfl rfl func56 rfl kg1 rfl) (fn1 (b:={lb with ph:=.make,bs:=s2.st lb.j,bk:=H7 s2 lb.j}) hN.at_ rfl rfl rfl (Tn.start h).B hN.c6.size rfl hqs Lg0 hMx hLt hCn ⟨z89,z1,z2,z3⟩ ⟨n89,n1,n2,n3⟩ hBk hf1) ?_ (fun ch u hx=>nd0 hok hj hZ hx.1 (hx.2.at hN.c6.os hN.c6.output) fun ch' u' h1 h2=>ZP.leave rfl func59 L5 ⟨h1,h2⟩) (fun _ h=>h);rintro v w ⟨s3,m3,r3,g1,g2,g3,g4,g5,rfl,tb1⟩;have hN:=hN.go (Nat.le_refl _) g1 g2 g3;rw[Xs0 (lb:={lb with ph:=.make,bs:=s2.st lb.j,bk:=H7 s2 lb.j}) rfl]at hN;refine U9 ?_;refine U12 ?_;refine U328 ?_;have K3:=Iz0 (b:={lb with ph:=.unl s3.en.length,bs:=s2.st lb.j,bk:=H7 s2 lb.j}) hN.at_ rfl rfl (.inl ⟨s3.en.length,rfl⟩)
    refine ZR.defer hZ func53 Fg0 rfl (by simpa using K3) (fun v u hx=>?_) (fun ch u hx=>?_) (fun u hx=>hx)
    ·have hE3:=hN.at_.mem.en s3.en.length (by show _<(s3.en ++ [_]).length;simp)
     obtain⟨s4,m4,r4,g1,g2,g3,g4,g5,rfl⟩:=hx;have hN:=hN.go hN.c6.size g1 g2 g3;rw[Tb0 (e:=s3.en.length) (lb:={lb with ph:=.unl s3.en.length,bs:=s2.st lb.j,bk:=H7 s2 lb.j}) rfl]at hN;refine U496 ?_;have heb:eb m4 s3.en.length=b89:=by
      rw[<- tb1];unfold eb;rw[g2 _ hE3.g.1]
     exact⟨m4,_,r4,hN,s3.en.length,_,by rw[heb];rfl,rfl,g4.e _ rfl⟩
    ·exact ZP.leave rfl func59 L5 ⟨hx.1,hx.2.at hN.c6.os hN.c6.output⟩
   |some e=>
   ·rw[Sy0 (lb:={lb with ph:=.cd0}) rfl hfd]at hN;refine U115 ?_;intro w b9 F9 Ai0;have lt9:w0.heap.size <=b9:=by have h9:=F9.here;have h8:=hN.c6.size;omega
    refine U142 ?_;intro hN C8;refine U106 ?_;intro w A1 hg N2 hN;have C8:=A1;clear A1 hg N2;refine U137 ?_;refine U363 ?_;refine U76 ?_;intro hso hM hfi;rw[hfd]at hfi;refine U95 ?_;intro at0 hsl hll;rintro _ w ⟨rfl,G1⟩;rw[hfi];have hN:=hN.j0 G1;refine U243 ?_;refine U304 ?_;refine U11 ?_;refine U65 ?_;refine U50 ?_;refine ZA.seq hZ ?_;have he:=(hN.at_.L3 _ rfl).e e rfl;have hE:=hN.at_.mem.en e he
    refine U32 ?_;refine U10 ?_;refine U402 ?_;refine L.va (H3 rfl) ?_;refine L.Y2 rfl (r6 rfl rfl rfl func50 rfl cv1 rfl) (Sk0 (b:={lb with ph:=.z6 e,nu:=(gE s2 e).num}) hN.at_ rfl rfl (.inr rfl)) ?_ ?_ (fun _ h=>h)
    ·rintro v w ⟨s3,m3,r3,g1,g2,g3,g4,g5,rfl⟩;have hN:=hN.go hN.c6.size g1 g2 g3;rw[Ta0 (e:=e) (lb:={lb with ph:=.z6 e,nu:=(gE s2 e).num}) rfl]at hN;have Ss0:=g2 _ hE.g.1;clear g1 g3;refine U9 ?_;refine U12 ?_;refine U328 ?_;have K3:=Iz0 (b:={lb with ph:=.unl e,nu:=(gE s2 e).num}) hN.at_ rfl rfl (.inl ⟨e,rfl⟩)
     refine ZR.defer hZ func53 Fg0 rfl (by simpa using K3) (fun v u hx=>?_) (fun ch u hx=>?_) (fun u hx=>hx)
     ·obtain⟨s4,m4,r4,g1,g2,g3,g4,g5,rfl⟩:=hx;have hN:=hN.go hN.c6.size g1 g2 g3;rw[Tb0 (e:=e) (lb:={lb with ph:=.unl e,nu:=(gE s2 e).num}) rfl]at hN;refine U496 ?_;have heb:eb m4 e=eb m2 e:=by
       have h9:=g2 (9*e) (by rw[Ss0];exact hE.g.1);unfold eb;rw[h9,Ss0]
      exact⟨m4,_,r4,hN,e,_,by rw[heb];rfl,rfl,g4.e _ rfl⟩
     ·exact ZP.leave rfl func59 L5 ⟨hx.1,hx.2.at hN.c6.os hN.c6.output⟩
    ·rintro ch u ⟨l7,hh⟩;exact nd0 hok hj hZ l7 (hh.at hN.c6.os hN.c6.output) fun ch' u' h1 h2=>ZP.leave rfl func59 L5 ⟨h1,h2⟩
  ·rintro ch u ⟨l7,hh⟩;exact nd0 hok hj hZ l7 (hh.at hN.c6.os hN.c6.output) fun ch' u' h1 h2=>ZP.leave rfl func59 L5 ⟨h1,h2⟩
 ·rintro ch u ⟨l7,hh⟩;exact ZP.leave rfl func59 L5 ⟨l7,hh.at hN.c6.os hN.c6.output⟩
set_option maxHeartbeats 1000000 in
theorem fv1 {p:W4} {fb:Nat->FuncId} {q:PR (S0 p)} {L2:World} {i cb:Nat} {top:List Frame} {m:Gm} {w0:World} {o:k6 E3 Lb} {k:Nat} {r:o6} {lb:Lb} {e:Nat} (h:SAt p fb q L2 i cb top m w0 o k r) (hk:k=o.nts.length) (hf:o.N1= .inl lb) (hp:lb.ph= .less e) :
  @Calls prog (I0 (B3 p fb q L2 i cb top)) 28 #[.pointer (some ⟨p.tb,0,none⟩),.pointer (some ⟨cb,0,none⟩),.pointer (some ⟨eb m e,0,none⟩)] w0 (A3 (B3 p fb q L2 i cb top) w0 fun v u=>∃m1 o1 r1,Tn p fb q L2 i cb top w0.heap.size m w0 (SF p m o.s r) m1 u o1 0 r1/\v= .tuple #[]/\∃s',o1=P6 p.n ((p.bo i).drop lb.k) lb.k lb.has s' []):=by
 letI:Ctx prog:=I0 (B3 p fb q L2 i cb top);refine B8 (n:=92) func28 rfl rfl fun Z hZ cs L5=>?_;have hb:(base 28).kind≠.early:=by decide
 have hN:=Tn.start h;have hL:=h.L3 lb hf;have hj:=hL.j;have hok:=h.ok;have hn0:=h.ok.n.1;have Ld0:=h.ok.n.2;have he:=hL.e e (by rw[hp];rfl);have hg:=(h.mem.en e he).g;have hg0:m (9*e)≠0/\m (9*e+5)≠0:=⟨hg.1,hg.2.2.2⟩
 obtain⟨hqe,hjs⟩:=hL.q e (by rw[hp];rfl);have hjq:=hjs.symm;have hqs:lb.q.size <=1000000000000:=by rw[hqe];exact(h.mem.en e he).sz
 obtain⟨nm0,lm0,G7⟩:=hN.Gs0 hg0 hqe;clear hg hL;refine ZA.seq hZ ?_;refine ZA.seq hZ ?_;refine U32 ?_;refine L.va (H3 rfl) ?_;refine L.va (c5 rfl rfl underlying23) ?_;refine U36 ?_;refine U500 ?_;refine U75 ?_;refine U491 ?_;refine L.on rfl ?_;refine U111 ?_;refine L.Y2 rfl (r6 rfl rfl rfl func50 rfl cv1 rfl) (fm1 hN.at_ hk hf hp) ?_ ?_ (fun _ h=>h)
 ·rintro v w ⟨s1,m1,r1,g1,g2,g3,g4,g5,rfl⟩;have hN:=hN.go hN.c6.size g1 g2 g3;have hu:=og0 (d:=-1) (g4.e e (by rw[hp];rfl));clear G7;by_cases hz:IntKind.i64.wrap ((gE s1 e).K1+(-1))=0
  ·rw[Su0 hp (hu.trans hz)]at hN;rw[hz];clear g1 g2 g3 g4 g5;obtain⟨nm1,lm1,G7⟩:=hN.Gs0 hg0 ((hN.at_.L3 _ rfl).q e rfl).1;refine L.on rfl ?_;refine L.va (R5 (r:=false) (by decide) (vy0 (m:=0) (k:=0) rfl rfl)) ?_;refine L.va (A7 rfl) ?_;refine U9 ?_;refine U257 ?_;refine U12 ?_;refine U503 ?_;refine L.va (A0 rfl underlying9 rfl (G7.q0 0 (v:=.string lb.q) rfl)) ?_;refine L.call (P2 rfl rfl func51 rfl kd1 rfl) (Da0 p.tb p.wb p.obj p.n p.rw p.cl p.n p.n lb.q hqs hn0 Ld0 _ hN.tb) ?_;rintro _ w9 ⟨rfl,hw9⟩;rw[hw9,hjq];clear hw9 w9;refine U215 ?_;refine U97 ?_;refine U324 ?_;refine L.Y2 rfl (P2 rfl rfl func52 rfl ke1 rfl) (av1 (b:={lb with ph:=.ad0 e}) hN.at_ rfl rfl (.inr ⟨e,rfl⟩)) ?_ ?_ (fun _ h=>h)
   ·rintro v w ⟨s1,m1,r1,g1,g2,g3,g4,g5,rfl⟩;have hN:=hN.go hN.c6.size g1 g2 g3;rw[Xr0 (e:=e) (lb:={lb with ph:=.ad0 e}) rfl]at hN;clear g1 g2 g3 g4 g5 G7;obtain⟨nm1,lm1,G7⟩:=hN.Gs0 hg0 ((hN.at_.L3 _ rfl).q e rfl).1;refine U137 ?_;refine U22 ?_;refine U218 ?_;refine U303 ?_;refine U11 ?_;refine ZA.upto hZ hb 2 rfl rfl (R:=fun e' w'=>ZA _ _ _ _ e' _ w') ?_ (fun _ _ h=>h);refine U330 ?_;refine U299 ?_;letI D1:B4:=B4.push Mq0 {target:=.fn (.func 53) #[],args:=#[.pointer (some ⟨p.rw lb.j,0,none⟩),.pointer (some ⟨cb,0,none⟩)]};refine U47 ?_;refine U97 ?_;refine U171 ?_;refine U320 ?_;refine L.Y2 rfl (P2 rfl rfl func39 rfl Vk0 rfl) (Sj0 (b:={lb with ph:=.ae0 e}) hN.at_ rfl rfl (.inr (.inr ⟨e,rfl⟩))) ?_ ?_ (fun _ h=>h)
    ·rintro v w ⟨s2,m2,r2,g1,g2,g3,g4,g5,rfl⟩;have hN:=hN.go hN.c6.size g1 g2 g3;have hq2:=(g4.q e rfl).1;clear G7;by_cases hin:e∈(s2.st lb.j).l
     ·have hfd:bo0 s2 lb.j lb.q=some e:=by have h9:=Xq0 g5 hin;rw[<- hq2]at h9;exact h9
      rw[Sw0 (lb:={lb with ph:=.ae0 e}) rfl hin]at hN;refine U115 ?_;intro w b9 F9 Ai0;have lt9:w0.heap.size <=b9:=by have h9:=F9.here;have h8:=hN.c6.size;omega
      refine U142 ?_;intro hN C8;refine U106 ?_;intro w A1 hg N2 hN;have C8:=A1;clear A1 hg N2;obtain⟨nm2,lm2,G7⟩:=hN.Gs0 hg0 hq2;have hv2:=hN.at_.mem.gv lb.j hj
      refine U9 ?_;refine U88 ?_;refine U248 ?_;intro V3;have hN:=hN.j0 V3;have C8:=C8.j0 V3;have G7:=G7.j0 V3;clear V3;generalize w.drew=w at *;refine U254 ?_;refine U314 ?_;refine U76 ?_;intro hso hM hfi;rw[hfd]at hfi;refine U293 ?_;intro at0 hsl;have hll:=hso.ll lb.j;have hfi:=hfi.trans (congrArg some (hN.ebs hg0).1);refine L.call (P2 rfl rfl func54 rfl kf1 rfl) (Ir0 r2.ky p.B (s2.st lb.j).O0 (vc m2 lb.j (s2.st lb.j).M3) (some ⟨va m2 lb.j (s2.st lb.j).M3,0,none⟩) _ _ (at_ r2.ky (s2.st lb.j).O0 ((s2.st lb.j).l.map (eb m2))) (iaG m2 lb.j (s2.st lb.j).M3) (icG m2 lb.j (s2.st lb.j).M3) lb.q hqs hsl.1 (Nat.le_trans hsl.2 (Nat.le_trans (Nat.succ_le_succ at0) (by decide))) (fun j _=>Nat.le_trans (oe0 ..) (by rw[List.length_map];exact Nat.le_trans hll (Nat.le_trans at0 (by decide)))) _ (hM.bk lb.j hj) ((hM.zw0 hso).sub fun b hb=>(List.mem_filter.1 hb).1)) ?_;rintro _ w ⟨rfl,G1⟩;rw[hfi];refine U54 ?_;intro hN C8;have G7:=G7.j0 G1;clear G1;refine L.nil ⟨rfl,⟨C8,G7⟩,?_⟩;refine U194 ?_;refine U196 ?_;refine L.va (no0 rfl) ?_;refine U11 ?_;refine U32 ?_;refine L.va (bg0 rfl) ?_;refine U36 ?_;refine U111 ?_;refine L.va (R5 (r:=true) (decide_eq_true rfl) (qu0 rfl rfl underlying71 Oi0 (by decide) G7 G7 (Nat.zero_lt_succ _) (Nat.zero_lt_succ _))) ?_;refine L.va (p6 rfl) ?_;refine U75 ?_;refine U491 ?_;refine L.on rfl ?_;refine L.va (H3 rfl) ?_;have hus:=Xj0 (b:={lb with ph:=.K1 e,bs:=s2.st lb.j,bk:=H7 s2 lb.j}) hN.at_ rfl rfl rfl
      rw[(hN.ebs hg0).2]at hus;refine L.on rfl ?_;refine L.Y2 rfl (P2 rfl rfl func55 rfl ra1 rfl) hus ?_ ?_ (fun _ h=>h)
      ·rintro v w ⟨s3,m3,r3,g1,g2,g3,g4,g5,rfl⟩;have S2:s3.st lb.j=s2.st lb.j:=(g4.bs rfl).1;have od1:=g4.inn e rfl;have hq3:=(g4.q e rfl).1;have hva:va m3 lb.j (s2.st lb.j).M3=va m2 lb.j (s2.st lb.j).M3:=by unfold va;rw[g2 _ hv2.1]
       have hvc:vc m3 lb.j (s2.st lb.j).M3=vc m2 lb.j (s2.st lb.j).M3:=by unfold vc;rw[g2 _ hv2.2]
       have fw1:=g3.blk C8 (Nat.zero_lt_succ _) (P3 C8).lt Ai0;have C8:=fw1.1;have Ai0:=fw1.2;clear fw1;have hN:=hN.go hN.c6.size g1 g2 g3;rw[<- hva,<- hvc,<- S2]at C8;clear hus G7;by_cases hz:(gE s3 e).K1=0
       ·rw[Le0 (lb:={lb with ph:=.K1 e,bs:=s2.st lb.j,bk:=H7 s2 lb.j}) rfl hz]at hN;rw[hz];clear g1 g2 g3 g4 g5;obtain⟨nm3,lm3,G7⟩:=hN.Gs0 hg0 hq3;refine L.on rfl ?_;refine U452 ?_;refine U9 ?_;refine ZA.W7 hZ rfl ?_;refine ZA.code hZ hb ?_;refine W.fl 10 [9] [0,1,2,3,4,5,6,7,8,9] (fun w'=>Tn p fb q L2 i cb top w0.heap.size m w0 (SF p m o.s r) m3 w' ⟨s3,[],.inl {lb with ph:=.out e,bs:=s2.st lb.j,bk:=H7 s2 lb.j}⟩ 0 r3/\K0 w' b9 #[.slice (some ⟨va m3 lb.j (s3.st lb.j).M3,0,none⟩) ((s3.st lb.j).O0) (vc m3 lb.j (s3.st lb.j).M3),.int .i64 ((s3.st lb.j).l.length:Nat),.int .i64 ((s3.st lb.j).made:Nat)] 97) (by kernel_rfl) (by kernel_rfl) (by kernel_rfl) (by kernel_rfl) (by kernel_rfl) (⟨hN.j0 (Below.refl w.heap.size w).drew,C8.j0 (Below.refl w.heap.size w).drew⟩) ?_;refine U297 ?_;intro V3 hN;have C8:=C8.j0 V3;clear V3;generalize w.drew=w at *;refine U62 ?_;refine U270 ?_;refine U515 ?_;refine F.va rfl rfl (fun w' L1=>(D2 (cs:=[.slice (some ⟨va m3 lb.j (s3.st lb.j).M3,0,none⟩) ((s3.st lb.j).O0) (vc m3 lb.j (s3.st lb.j).M3),.int .i64 ((s3.st lb.j).l.length:Nat),.int .i64 ((s3.st lb.j).made:Nat)]) rfl underlying97 rfl o8 rfl (L1.2.T6 rfl))) ?_;refine U485 ?_;have hso:=hN.at_.so
        have hM:=hN.at_.mem
        refine U293 ?_;intro at0 hsl;have hll:=hso.ll lb.j;have heb:=(hN.ebs hg0).1;obtain⟨N8,hN8⟩:∃N8,N8=w.heap.size:=⟨_,rfl⟩
        have hke:r3.ky (eb m e)=lb.q:=by rw[<- heb,(hM.en e ((hN.at_.L3 _ rfl).e e rfl)).ky];exact hq3.symm
        have oe1:eb m e∈at_ r3.ky (s3.st lb.j).O0 ((s3.st lb.j).l.map (eb m3)) (slot (s3.st lb.j).O0 (r3.ky (eb m e))):=List.mem_filter.2 ⟨List.mem_map.2 ⟨e,od1,heb⟩,by simp⟩
        refine L.call (P2 rfl rfl func57 rfl rb1 rfl) (Kr0 r3.ky p.B (s3.st lb.j).O0 (vc m3 lb.j (s3.st lb.j).M3) (some ⟨va m3 lb.j (s3.st lb.j).M3,0,none⟩) _ _ (at_ r3.ky (s3.st lb.j).O0 ((s3.st lb.j).l.map (eb m3))) (iaG m3 lb.j (s3.st lb.j).M3) (icG m3 lb.j (s3.st lb.j).M3) (eb m e) hsl.1 (Nat.le_trans hsl.2 (Nat.le_trans (Nat.succ_le_succ at0) (by decide))) (fun j _=>Nat.le_trans (oe0 ..) (by rw[List.length_map];exact Nat.le_trans hll (Nat.le_trans at0 (by decide)))) _ hN.B (hM.bk lb.j hj) ((hM.zw0 hso).sub fun b hb=>(List.mem_filter.1 hb).1) oe1) ?_;rintro _ w ⟨a1,c1,a2,c2,rfl,hO9,hI9,G1⟩;have hf1:¬SF p m3 s3 r3 a1:=by obtain⟨cur,_,hlo,_⟩:=hO9.row (by simp);exact hN.at_.fresh hlo
        have hf2:a2≠none->¬SF p m3 s3 r3 (ab a2):=fun ha=>by obtain⟨cur,_,hlo,_⟩:=hI9.row ha;exact hN.at_.fresh hlo
        have hNB:=hN.B;have of1:=hN.c6.size;have og1:=G1.size;rw[<- hN8]at hO9 hI9 hNB of1 og1;clear hM;refine U54 ?_;intro hN C8;clear G1 hN8;have hln:((s3.st lb.j).l.filter fun x=>decide (x≠e)).length+1=(s3.st lb.j).l.length:=fs1 (St0 _ (hso.nd lb.j)) od1;have hlm:(s3.st lb.j).l.length <=200:=Nat.le_trans hll at0;have hwl:IntKind.i64.wrap ((((s3.st lb.j).l.length:Nat):Int)-1)=(((s3.st lb.j).l.filter fun x=>decide (x≠e)).length:Nat):=by rw[IntKind.wrap_i64];omega
        rw[hwl];refine L.nil ⟨rfl,⟨hN,C8⟩,?_⟩;refine U8 ?_;have hM:=hN.at_.mem
        have tc1:=(hN.at_.L3 _ rfl).e e rfl;have hfe:∀x∈(s3.st lb.j).l,eb m3 x=eb m3 e->x=e:=fun x hx hxe=>by
         by_cases h:x=e
         ·exact h
         ·exact absurd hxe (hM.inj x e (hso.l _ _ hx) tc1 h).1
        have oh1:=fr1 (ky:=r3.ky) (n:=(s3.st lb.j).O0) (i0:=slot (s3.st lb.j).O0 (r3.ky (eb m e))) hfe;rw[heb]at oh1;rw[oh1]at hO9 hI9;have td1:o3 (at_ r3.ky (s3.st lb.j).O0 ((s3.st lb.j).l.map (eb m3))) (slot (s3.st lb.j).O0 (r3.ky (eb m e))) (at_ r3.ky (s3.st lb.j).O0 (((s3.st lb.j).l.filter fun x=>decide (x≠e)).map (eb m3)) (slot (s3.st lb.j).O0 (r3.ky (eb m e))))=at_ r3.ky (s3.st lb.j).O0 (((s3.st lb.j).l.filter fun x=>decide (x≠e)).map (eb m3)):=funext fun j=>by
         by_cases h:j=slot (s3.st lb.j).O0 (r3.ky (eb m e))
         ·rw[h,Y0]
         ·rw[Z0 h];exact(of0 (by rw[heb];exact h)).symm
        rw[td1]at hO9;refine L.Y2 rfl (r6 rfl rfl rfl func56 rfl kg1 rfl) (ny1 (b:={lb with ph:=.out e,bs:=s2.st lb.j,bk:=H7 s2 lb.j}) (i0:=slot (s3.st lb.j).O0 (r3.ky (eb m e))) (ia:=o3 (iaG m3 lb.j (s3.st lb.j).M3) (slot (s3.st lb.j).O0 (r3.ky (eb m e))) a2) (ic:=o3 (icG m3 lb.j (s3.st lb.j).M3) (slot (s3.st lb.j).O0 (r3.ky (eb m e))) c2) hN.at_ rfl rfl rfl hNB og1 rfl hO9 (by rw[Y0,Y0];exact hI9) (fun x _ hx=>⟨by rw[Z0 hx],by rw[Z0 hx],of0 (by rw[heb];exact hx)⟩) hf1 (by rw[Y0];exact hf2)) ?_ (fun ch u hx=>nd0 hok hj hZ hx.1 (hx.2.at hN.c6.os hN.c6.output) fun ch' u' h1 h2=>ZP.leave rfl func28 L5 ⟨h1,h2⟩) (fun _ h=>h);rintro v w ⟨s4,m4,r4,g1,g2,g3,g4,g5,rfl⟩;have hN:=hN.go of1 g1 g2 g3;rw[ft1 (e:=e) (lb:={lb with ph:=.out e,bs:=s2.st lb.j,bk:=H7 s2 lb.j}) rfl]at hN;refine U9 ?_;refine U457 ?_;intro K3;refine ZR.defer hZ func53 Fg0 rfl (by simpa using K3) (fun v u hx=>?_) (fun ch u hx=>?_) (fun u hx=>hx)
        ·obtain⟨s5,m5,r5,g1,g2,g3,g4,g5,rfl⟩:=hx;have hN:=hN.go hN.c6.size g1 g2 g3;rw[oz0 (e:=e) (lb:={lb with ph:=.R6 e,bs:=s2.st lb.j,bk:=H7 s2 lb.j}) rfl]at hN;exact U204
        ·exact ZP.leave rfl func28 L5 ⟨hx.1,hx.2.at hN.c6.os hN.c6.output⟩
       ·rw[Lf0 (lb:={lb with ph:=.K1 e,bs:=s2.st lb.j,bk:=H7 s2 lb.j}) rfl hz]at hN;clear g1 g2 g3 g4 g5;refine L.on rfl ?_;refine L.va (R5 (r:=false) (decide_eq_false hz) (S9 (m:=(gE s3 e).K1) (k:=0) rfl rfl)) ?_;refine L.va (p6 rfl) ?_;refine U9 ?_;refine U257 ?_;refine U457 ?_;intro K3;refine ZR.defer hZ func53 Fg0 rfl (by simpa using K3) (fun v u hx=>?_) (fun ch u hx=>?_) (fun u hx=>hx)
        ·obtain⟨s5,m5,r5,g1,g2,g3,g4,g5,rfl⟩:=hx;have hN:=hN.go hN.c6.size g1 g2 g3;rw[oz0 (e:=e) (lb:={lb with ph:=.R6 e,bs:=s2.st lb.j,bk:=H7 s2 lb.j}) rfl]at hN;exact U204
        ·exact ZP.leave rfl func28 L5 ⟨hx.1,hx.2.at hN.c6.os hN.c6.output⟩
      ·rintro ch u ⟨l7,hh⟩;exact nd0 hok hj hZ l7 (hh.at hN.c6.os hN.c6.output) fun ch' u' h1 h2=>ZP.leave rfl func28 L5 ⟨h1,h2⟩
     ·cases hfd:bo0 s2 lb.j lb.q with
      |none=>
      ·rw[Do0 (lb:={lb with ph:=.ae0 e}) rfl hin]at hN;refine U115 ?_;intro w b9 F9 Ai0;have lt9:w0.heap.size <=b9:=by have h9:=F9.here;have h8:=hN.c6.size;omega
       refine U142 ?_;intro hN C8;refine U106 ?_;intro w A1 hg N2 hN;have C8:=A1;clear A1 hg N2;obtain⟨nm2,lm2,G7⟩:=hN.Gs0 hg0 hq2;have hv2:=hN.at_.mem.gv lb.j hj
       refine U9 ?_;refine U88 ?_;refine U248 ?_;intro V3;have hN:=hN.j0 V3;have C8:=C8.j0 V3;have G7:=G7.j0 V3;clear V3;generalize w.drew=w at *;refine U254 ?_;refine U314 ?_;refine U76 ?_;intro hso hM hfi;rw[hfd]at hfi;refine U95 ?_;intro at0 hsl hll;rintro _ w ⟨rfl,G1⟩;rw[hfi];refine U54 ?_;intro hN C8;have G7:=G7.j0 G1;clear G1;refine L.nil ⟨rfl,⟨C8,G7⟩,?_⟩;refine U194 ?_;refine F.va rfl rfl (fun w' L1=>E7) ?_;refine U8 ?_;refine U231 ?_;refine U186 ?_;refine U170 ?_;refine U233 ?_;refine U170 ?_;refine U124 ?_;refine U514 ?_;intro K3;refine ZR.defer hZ func53 Fg0 rfl (by simpa using K3) (fun v u hx=>?_) (fun ch u hx=>?_) (fun u hx=>hx)
       ·obtain⟨s5,m5,r5,g1,g2,g3,g4,g5,rfl⟩:=hx;have hN:=hN.go hN.c6.size g1 g2 g3;rw[oz0 (e:=e) (lb:={lb with ph:=.R6 e}) rfl]at hN;exact U204
       ·exact ZP.leave rfl func28 L5 ⟨hx.1,hx.2.at hN.c6.os hN.c6.output⟩
      |some x=>
      ·have hxl:=List.mem_of_find?_eq_some hfd;have hxe:x≠e:=fun z=>hin (z▸hxl);rw[Do0 (lb:={lb with ph:=.ae0 e}) rfl hin]at hN;refine U115 ?_;intro w b9 F9 Ai0;have lt9:w0.heap.size <=b9:=by have h9:=F9.here;have h8:=hN.c6.size;omega
       refine U142 ?_;intro hN C8;refine U106 ?_;intro w A1 hg N2 hN;have C8:=A1;clear A1 hg N2;obtain⟨nm2,lm2,G7⟩:=hN.Gs0 hg0 hq2;have hv2:=hN.at_.mem.gv lb.j hj
       refine U9 ?_;refine U88 ?_;refine U248 ?_;intro V3;have hN:=hN.j0 V3;have C8:=C8.j0 V3;have G7:=G7.j0 V3;clear V3;generalize w.drew=w at *;refine U254 ?_;refine U314 ?_;refine U76 ?_;intro hso hM hfi;rw[hfd]at hfi;refine U95 ?_;intro at0 hsl hll;rintro _ w ⟨rfl,G1⟩;rw[hfi];refine U54 ?_;intro hN C8;have G7:=G7.j0 G1;clear G1;refine L.nil ⟨rfl,⟨C8,G7⟩,?_⟩;refine U194 ?_;refine U196 ?_;refine U231 ?_;refine U36 ?_;refine U111 ?_;have hX9:=(hN.at_.mem.en x (hN.at_.so.l _ _ hxl)).hE;have Xv0:eb m2 x≠eb m e:=by have h9:=(hN.at_.mem.inj x e (hN.at_.so.l _ _ hxl) ((hN.at_.L3 _ rfl).e e rfl) hxe).1;rw[(hN.ebs hg0).1]at h9;exact h9
       refine L.va (R5 (r:=false) (decide_eq_false Xv0) (qu0 rfl rfl underlying71 Oi0 (by decide) hX9 G7 (Nat.zero_lt_succ _) (Nat.zero_lt_succ _))) ?_;refine L.va (p6 rfl) ?_;refine U233 ?_;refine U170 ?_;refine U124 ?_;refine U514 ?_;intro K3;refine ZR.defer hZ func53 Fg0 rfl (by simpa using K3) (fun v u hx=>?_) (fun ch u hx=>?_) (fun u hx=>hx)
       ·obtain⟨s5,m5,r5,g1,g2,g3,g4,g5,rfl⟩:=hx;have hN:=hN.go hN.c6.size g1 g2 g3;rw[oz0 (e:=e) (lb:={lb with ph:=.R6 e}) rfl]at hN;exact U204
       ·exact ZP.leave rfl func28 L5 ⟨hx.1,hx.2.at hN.c6.os hN.c6.output⟩
    ·rintro ch u ⟨l7,hh⟩;exact nd0 hok hj hZ l7 (hh.at hN.c6.os hN.c6.output) fun ch' u' h1 h2=>ZP.leave rfl func28 L5 ⟨h1,h2⟩
   ·rintro ch u ⟨l7,hh⟩;exact ZP.leave rfl func28 L5 ⟨l7,hh.at hN.c6.os hN.c6.output⟩
  ·rw[Sv0 hp (fun z=>hz (hu.symm.trans z))]at hN;refine L.on rfl ?_;refine L.va (R5 (r:=true) (decide_eq_true hz) (vy0 (m:=(IntKind.i64.wrap ((gE s1 e).K1+(-1)))) (k:=0) rfl rfl)) ?_;refine L.va (A7 rfl) ?_;refine U9 ?_;refine ZA.W7 hZ rfl ?_;refine ZA.ret hZ ?_;refine U364 ?_;exact⟨m1,_,r1,hN,rfl,_,rfl⟩
 ·rintro ch u ⟨l7,hh⟩;exact ZP.leave rfl func28 L5 ⟨l7,hh.at hN.c6.os hN.c6.output⟩
end Go.Vy.Sc
end
section
namespace Go.Vy.Sc
open Go Go.Conc Go.Yc Go.RowKit Go.Proofs Go.Proofs.YtinppmaojmdmhaaGreat Tryz
open Go.Vc
section
variable [Ctx prog]
end
section
theorem Xw0 (o:SOp):(o.rc0.tmod 4+4).tmod 4=((plc o:Nat):Int):=mi1 o.rc0 (n:=4) (by decide)
theorem fx1 (n:Int):-9223372036854775808 <=n.tmod 4+4/\n.tmod 4+4 <=9223372036854775807:=by
 have h:-1000 <=n.tmod 4/\n.tmod 4 <=1000:=Ig0 n (n:=4) (by decide) (by decide);omega
theorem u64_in {m:Int} (h:0 <=m/\m<18446744073709551616):IntKind.u64.wrap m=m:=by
 simp[IntKind.wrap,IntKind.signed,IntKind.bits];omega
theorem u8_in {m:Int} (h:0 <=m/\m<256):IntKind.u8.wrap m=m:=by
 simp[IntKind.wrap,IntKind.signed,IntKind.bits];omega
end
section
variable [Ctx prog]
def Dp0 (i:Nat):Nat:=if i<10 then 10+i else 2
def rg0 (n:Nat) (i:Nat):Value:=match i with
 |0=>.int .u64 (n:Int)
 |1=>.int .u64 (IntKind.u64.wrap ((n:Int).tdiv 10))
 |2=>.string (ia0 (n/10))
 |3=>.int .u64 (n:Int)
 |4=>.int .u64 ((n:Int).tmod 10)
 |5=>.int .u64 (IntKind.u64.wrap (48+(n:Int).tmod 10))
 |6=>.int .u8 (IntKind.u8.wrap (IntKind.u64.wrap (48+(n:Int).tmod 10)))
 |8=>.string (ByteArray.empty.push (UInt8.ofNat (IntKind.u8.wrap (IntKind.u64.wrap (48+(n:Int).tmod 10))).toNat))
 |_=>.string (ia0 (n/10)++(ByteArray.empty.push (UInt8.ofNat (IntKind.u8.wrap (IntKind.u64.wrap (48+(n:Int).tmod 10))).toNat)))
def ic0 (n:Nat) (i:Nat) (e:Env) (u:World):Prop:=if i=7 then ∃b,e 17= .slice (some ⟨b,0,none⟩) 1 1/\K0 u b #[.int .u8 (IntKind.u8.wrap (IntKind.u64.wrap (48+(n:Int).tmod 10)))] 5 else e (Dp0 i)=rg0 n i
end
section
theorem Lh0 {n i j:Nat} {e:Env} {u u':World} {v:Value} (hi:i<11) (hj:j<11) (N3:j≠i) (hb:Below u.heap.size u u') (h:ic0 n j e u):ic0 n j (upd e (Dp0 i) v) u':=by
 unfold ic0 at h⊢;split
 ·rename_i h7;subst h7;obtain⟨b,h1,h2⟩:=h;refine⟨b,?_,h2.j0 hb⟩;rw[<- h1];unfold upd;rw[if_neg (by unfold Dp0;split <;> omega)]
 ·rename_i h7;rw[if_neg h7]at h;rw[<- h];unfold upd;rw[if_neg (by unfold Dp0;split <;> split <;> omega)]
end
section
variable [Ctx prog]
def fy1 (n:Nat) (w0:World) (D:Nat->Bool) (e:Env) (u:World):Prop:=Below w0.heap.size w0 u/\e 0= .int .u64 (n:Int)/\∀j,j<11->D j=true->ic0 n j e u
end
section
theorem n7 {n:Nat} {w0:World} {D:Nat->Bool} {e:Env} {u u':World} {i:Nat} {v:Value} (hi:i<11) (h:fy1 n w0 D e u) (hb:Below u.heap.size u u') (hv:ic0 n i (upd e (Dp0 i) v) u'):fy1 n w0 (A6 D i) (upd e (Dp0 i) v) u':=by
 obtain⟨h1,h2,h3⟩:=h;refine⟨G0 h1 hb,?_,fun j hj hD=>?_⟩
 ·rw[<- h2];unfold upd;rw[if_neg (by unfold Dp0;split <;> omega)]
 ·by_cases O3:j=i
  ·subst O3;exact hv
  ·exact Lh0 hi hj O3 hb (h3 j hj (by simpa [A6,O3]using hD))
theorem P7 {P:Program} [Ctx P] {ops:Array Oper} {I:(Nat->Bool)->Env->World->Prop} {i:Nat} {o:Oper} {D:Nat->Bool} {e:Env} {w w':World} {v:Value} (hw:Region.wanted o (G3 ops e)=true) (h:Does P (execOp (ev e) o) w (.val v) w') (hI:I (A6 D i) (R3 e o.dst v) w'):Hs0 P ops I i o D e w :=
 .inl ⟨hw,fun τ d=>⟨.val v,Yc.V2 w' τ d,h.go τ d,by have h1:=h.tape;have h2:=h.drawn;show I _ _ (Yc.V2 (Yc.V2 w' τ d) w.tape w.drawn);rw[<- h1,<- h2];exact hI⟩⟩
theorem Gu0 {P:Program} [Ctx P] {ops:Array Oper} {I:(Nat->Bool)->Env->World->Prop} {i:Nat} {o:Oper} {D:Nat->Bool} {e:Env} {w:World} {f:FuncId} {args:Array Value} (hw:Region.wanted o (G3 ops e)=true) (h:Does P (execOp (ev e) o) w (.enter f args) w) (hI:C P f args w (fun v w''=>I (A6 D i) (R3 e o.dst v) w'')):Hs0 P ops I i o D e w :=
 .inl ⟨hw,fun τ d=>⟨.enter f args,Yc.V2 w τ d,h.go τ d,hI⟩⟩
theorem Dq0 {n:Nat} (h:n<10):ByteArray.empty.push (UInt8.ofNat (IntKind.u8.wrap (IntKind.u64.wrap (48+(n:Int)))).toNat)=lt0 n:=by
 rw[u64_in (by omega),u8_in (by omega)];have h1:(48+(n:Int)).toNat=48+n%10:=by omega
 rw[h1];rfl
theorem fz1 {n:Nat} (h:n<10):ByteArray.empty.push (UInt8.ofNat (IntKind.u8.wrap (IntKind.u64.wrap (48+(n:Int)))).toNat)=ia0 n:=by
 rw[Dq0 h,Aa0 h]
theorem ga1 {n:Nat} (h:¬n<10):ia0 (n/10)++ByteArray.empty.push (UInt8.ofNat (IntKind.u8.wrap (IntKind.u64.wrap (48+(n:Int).tmod 10))).toNat)=ia0 n:=by
 have h1:(n:Int).tmod 10=((n%10:Nat):Int):=rfl;rw[h1,Dq0 (by omega),It0 h];have:lt0 (n%10)=lt0 n:=by unfold lt0;rw[Nat.mod_mod]
 rw[this]
theorem Xx0 {n:Nat} (h:n<18446744073709551616):IntKind.u64.wrap ((n:Int).tdiv 10)=((n/10:Nat):Int):=by
 have h1:(n:Int).tdiv 10=((n/10:Nat):Int):=rfl;rw[h1,u64_in (by omega)]
end
section
variable [Ctx prog]
theorem Xy0 (o:SOp) (w:World):C prog 73 #[.int .i64 o.rc0] w fun v w1=>v= .int .i64 (plc o:Nat)/\w1=w:=by
 refine C.enter (n:=7) func73 rfl rfl ?_;refine U42 ?_;refine U117 ?_;refine L.va (jq0 (m:=o.rc0) (k:=4) rfl rfl (by decide)) ?_;refine L.va (eh0 (m:=o.rc0.tmod 4) (k:=4) rfl rfl (fx1 o.rc0)) ?_;refine L.va (jq0 (m:=o.rc0.tmod 4+4) (k:=4) rfl rfl (by decide)) ?_;refine U138 ?_;exact⟨congrArg (Value.int .i64) (Xw0 o),rfl⟩
theorem Aj0 (n:Nat) (hn:n<18446744073709551616) (w0:World) (ih:¬n<10->∀w,C prog 150 #[.int .u64 (IntKind.u64.wrap ((n:Int).tdiv 10))] w fun v w1=>v= .string (ia0 (n/10))/\Below w.heap.size w w1):C prog 150 #[.int .u64 (n:Int)] w0 fun v w1=>v= .string (ia0 n)/\Below w0.heap.size w0 w1:=by
 refine C.enter (n:=20) func150 rfl rfl ?_;refine U1 ?_;intro hb;refine U19 ?_;refine U333 ?_;refine L.va (gv0 (κ:=.u64) (m:=(n:Int)) (k:=10) rfl rfl) ?_;refine U3 ?_;refine W.cond rfl (fun h4=>?_) (fun h4=>?_)
 ·have h4:n<10:=by have:=of_decide_eq_true h4;omega
  refine U130 ?_;refine L.va (gu0 (κ:=.u64) (m:=48) (k:=(n:Int)) rfl rfl) ?_;refine L.va (cb0 rfl underlying140 underlying5) ?_;refine L.ct0 (cs:=#[.int .u8 (IntKind.u8.wrap (IntKind.u64.wrap (48+(n:Int))))]) rfl rfl underlying272 sz5 rfl ⟨_,zr5⟩ (by decide) (fun w b8 F8=>?_);have hb:=G0 hb F8.below;have hB8:=F8.blk;refine L.va (xs0 (m:=IntKind.u8.wrap (IntKind.u64.wrap (48+(n:Int)))) rfl underlying272 underlying5 underlying9 (hB8.q0 0 rfl)) ?_;refine U141 ?_;exact⟨congrArg Value.string (fz1 h4),hb⟩
 ·have h4:¬n<10:=by have:=of_decide_eq_false h4;omega
  refine U59 ?_;refine W.seq ?_;refine W.inv (fy1 n w0) rfl (by kernel_rfl) ⟨hb.drew,rfl,fun j _ hD=>by cases hD⟩ ?_ (fun D e u de0 hJ=>?_)
  ·intro i o hi D e u hD C6 ud1 hJ;have hJ0:=hJ;obtain⟨hbu,h0,hv⟩:=hJ;have get:∀j,j<11->j≠7->D j=true->e (Dp0 j)=rg0 n j:=fun j hj h7 hd=>by have:=hv j hj hd;unfold ic0 at this;rwa [if_neg h7]at this
   match i,hi,C6 with
   |0,hi,C6=>
    obtain rfl:=Option.some.inj hi;refine P7 rfl v5 ?_;exact n7 (i:=0) (by decide) hJ0 (Below.refl _ _) (by unfold ic0;rw[if_neg (by decide)];exact(upd_same _ _ _).trans h0)
   |1,hi,C6=>
    obtain rfl:=Option.some.inj hi;have d0:D 0=true:=C6 _ (Array.mem_of_getElem? (i:=0) rfl) rfl;have g0:e 10=rg0 n 0:=get 0 (by decide) (by decide) d0;refine P7 rfl (Bi0 (κ:=.u64) (m:=(n:Int)) (k:=10) g0 rfl (by decide)) ?_;exact n7 (i:=1) (by decide) hJ0 (Below.refl _ _) (by unfold ic0;rw[if_neg (by decide)];rfl)
   |2,hi,C6=>
    obtain rfl:=Option.some.inj hi;have d1:D 1=true:=C6 _ (Array.mem_of_getElem? (i:=0) rfl) rfl;have g1:e 11=rg0 n 1:=get 1 (by decide) (by decide) d1;refine Gu0 rfl (K2 g1 func150 rfl Ot0 rfl) (C.mono (ih h4 u) fun v u2 hx=>?_);obtain⟨rfl,hx⟩:=hx;exact n7 (i:=2) (by decide) hJ0 hx (by unfold ic0;rw[if_neg (by decide)];rfl)
   |3,hi,C6=>
    obtain rfl:=Option.some.inj hi;refine P7 rfl v5 ?_;exact n7 (i:=3) (by decide) hJ0 (Below.refl _ _) (by unfold ic0;rw[if_neg (by decide)];exact(upd_same _ _ _).trans h0)
   |4,hi,C6=>
    obtain rfl:=Option.some.inj hi;have d3:D 3=true:=C6 _ (Array.mem_of_getElem? (i:=0) rfl) rfl;have g3:e 13=rg0 n 3:=get 3 (by decide) (by decide) d3;refine P7 rfl (jq0 (κ:=.u64) (m:=(n:Int)) (k:=10) g3 rfl (by decide)) ?_;exact n7 (i:=4) (by decide) hJ0 (Below.refl _ _) (by unfold ic0;rw[if_neg (by decide)];rfl)
   |5,hi,C6=>
    obtain rfl:=Option.some.inj hi;have d4:D 4=true:=C6 _ (Array.mem_of_getElem? (i:=0) rfl) rfl;have g4:e 14=rg0 n 4:=get 4 (by decide) (by decide) d4;refine P7 rfl (gu0 (κ:=.u64) (m:=48) (k:=(n:Int).tmod 10) rfl g4) ?_;exact n7 (i:=5) (by decide) hJ0 (Below.refl _ _) (by unfold ic0;rw[if_neg (by decide)];rfl)
   |6,hi,C6=>
    obtain rfl:=Option.some.inj hi;have d5:D 5=true:=C6 _ (Array.mem_of_getElem? (i:=0) rfl) rfl;have g5:e 15=rg0 n 5:=get 5 (by decide) (by decide) d5;refine P7 rfl (cb0 g5 underlying140 underlying5) ?_;exact n7 (i:=6) (by decide) hJ0 (Below.refl _ _) (by unfold ic0;rw[if_neg (by decide)];rfl)
   |7,hi,C6=>
    obtain rfl:=Option.some.inj hi;have d6:D 6=true:=C6 _ (Array.mem_of_getElem? (i:=0) rfl) rfl;have g6:e 16=rg0 n 6:=get 6 (by decide) (by decide) d6;have hf:=v7 u #[.int .u8 (IntKind.u8.wrap (IntKind.u64.wrap (48+(n:Int).tmod 10)))] 5;refine P7 rfl (pr0 (v:=.int .u8 (IntKind.u8.wrap (IntKind.u64.wrap (48+(n:Int).tmod 10)))) g6 rfl underlying272 sz5 zr5 rfl) ?_;exact n7 (i:=7) (by decide) hJ0 hf.below (by unfold ic0;rw[if_pos rfl];exact⟨_,rfl,hf.blk⟩)
   |8,hi,C6=>
    obtain rfl:=Option.some.inj hi;have d7:D 7=true:=C6 _ (Array.mem_of_getElem? (i:=0) rfl) rfl;have h7:=hv 7 (by decide) d7;unfold ic0 at h7;rw[if_pos rfl]at h7;obtain⟨b,g7,hB⟩:=h7;refine P7 rfl (xs0 (m:=IntKind.u8.wrap (IntKind.u64.wrap (48+(n:Int).tmod 10))) g7 underlying272 underlying5 underlying9 (hB.q0 0 rfl)) ?_;exact n7 (i:=8) (by decide) hJ0 (Below.refl _ _) (by unfold ic0;rw[if_neg (by decide)];rfl)
   |9,hi,C6=>
    obtain rfl:=Option.some.inj hi;have d2:D 2=true:=C6 _ (Array.mem_of_getElem? (i:=0) rfl) rfl;have g2:e 12=rg0 n 2:=get 2 (by decide) (by decide) d2;have d8:D 8=true:=C6 _ (Array.mem_of_getElem? (i:=1) rfl) rfl;have g8:e 18=rg0 n 8:=get 8 (by decide) (by decide) d8;refine P7 rfl (cz0 g2 g8 (by have:=fo0 20 (n/10) (by omega);have h9:(ByteArray.empty.push (UInt8.ofNat (IntKind.u8.wrap (IntKind.u64.wrap (48+(n:Int).tmod 10))).toNat)).size=1:=rfl;omega)) ?_;exact n7 (i:=9) (by decide) hJ0 (Below.refl _ _) (by unfold ic0;rw[if_neg (by decide)];rfl)
   |10,hi,C6=>
    obtain rfl:=Option.some.inj hi;have d9:D 9=true:=C6 _ (Array.mem_of_getElem? (i:=0) rfl) rfl;have g9:e 19=rg0 n 9:=get 9 (by decide) (by decide) d9;refine P7 rfl E7 ?_;exact n7 (i:=10) (by decide) hJ0 (Below.refl _ _) (by unfold ic0;rw[if_neg (by decide)];exact(upd_same _ _ _).trans g9)
   |i+11,hi,C6=>cases hi
  ·obtain⟨hbu,h0,hv⟩:=hJ;have h2:=hv 10 (by decide) (de0 10 (by decide));have h2:e 2= .string (ia0 (n/10)++(ByteArray.empty.push (UInt8.ofNat (IntKind.u8.wrap (IntKind.u64.wrap (48+(n:Int).tmod 10))).toNat))):=h2
   repeat(first|refine T.nrm ?_|refine B.nrm ?_|refine N.nrm ?_)
   show W _ _ _ _ _ _;refine U16 ?_;exact⟨h2.trans (congrArg Value.string (ga1 h4)),hbu⟩
theorem yn0:∀(n:Nat),n<18446744073709551616->∀w,C prog 150 #[.int .u64 (n:Int)] w fun v w1=>v= .string (ia0 n)/\Below w.heap.size w w1:=by
 intro n
 induction n using Nat.strongRecOn with
 |_ n ih=>
  intro hn w;refine Aj0 n hn w fun h w'=>?_;rw[Xx0 hn];exact ih (n/10) (by omega) (by omega) w'
theorem Dr0 (n:Int) (hn:-9223372036854775808 <=n/\n <=9223372036854775807) (w0:World):C prog 127 #[.int .i64 n] w0 fun v w1=>v= .string (mv0 n)/\Below w0.heap.size w0 w1:=by
 refine C.enter (n:=15) func127 rfl rfl ?_;refine U1 ?_;intro hb;refine U19 ?_;refine U14 ?_;refine L.va (gv0 (κ:=.i64) (m:=n) (k:=0) rfl rfl) ?_;refine U3 ?_;refine W.cond rfl (fun h4=>?_) (fun h4=>?_)
 ·have h4:n<0:=of_decide_eq_true h4;refine U117 ?_;refine L.va (eh0 (m:=n) (k:=1) rfl rfl (by omega)) ?_;refine L.va (Mu0 (k:=n+1) rfl (by omega)) ?_;refine L.va (cb0 rfl underlying2 underlying140) ?_;refine L.va (gu0 (κ:=.u64) (m:=IntKind.u64.wrap (-(n+1))) (k:=1) rfl rfl) ?_;have te1:IntKind.u64.wrap (IntKind.u64.wrap (-(n+1))+1)=(((-n).toNat:Nat):Int):=by rw[u64_in (m:=-(n+1)) (by omega),u64_in (by omega)];omega
  refine L.call (K2 rfl func150 rfl Ot0 rfl) (by have:=yn0 (-n).toNat (by omega) w0;rw[<- te1]at this;exact this) ?_;rintro _ w ⟨rfl,O2⟩;have hb:=G0 hb O2;refine L.va (cz0 (a:=ByteArray.mk #[45]) rfl rfl (by have:=fo0 20 (-n).toNat (by omega);have h9:(ByteArray.mk #[45]).size=1:=rfl;omega)) ?_;refine U141 ?_;exact⟨congrArg Value.string (by unfold mv0;rw[if_pos h4]),hb⟩
 ·have h4:¬n<0:=of_decide_eq_false h4;refine U59 ?_;refine U117 ?_;refine L.va (cb0 rfl underlying2 underlying140) ?_;have jt0:IntKind.u64.wrap n=((n.toNat:Nat):Int):=by rw[u64_in (by omega)];omega
  refine L.call (K2 rfl func150 rfl Ot0 rfl) (by have:=yn0 n.toNat (by omega) w0;rw[<- jt0]at this;exact this) ?_;rintro _ w ⟨rfl,O2⟩;have hb:=G0 hb O2;refine U141 ?_;exact⟨congrArg Value.string (by unfold mv0;rw[if_neg h4]),hb⟩
theorem gb1 (b:Nat) (q:ByteArray) (nm:Int) (lt us:Option Addr) (hq:q.size <=1000000000000) (hn:-9223372036854775808 <=nm/\nm <=9223372036854775807) (w0:World) (hB:K0 w0 b #[.string q,.int .i64 nm,.pointer lt,.pointer us] 127):C prog 75 #[.pointer (some ⟨b,0,none⟩)] w0 fun v w=>v= .string (q++ByteArray.mk #[47]++mv0 nm)/\Below w0.heap.size w0 w:=by
 refine C.enter (n:=10) func75 rfl rfl ?_;refine U1 ?_;intro hb;refine U19 ?_;refine U48 ?_;refine L.call (K2 rfl func30 rfl kb1 rfl) (fc1 b q nm lt us w0 hB) ?_;rintro _ w9 ⟨rfl,hw9⟩;refine U30 ?_;refine L.va (cz0 (a:=q) (b:=ByteArray.mk #[47]) rfl rfl (by have h9:(ByteArray.mk #[47]).size=1:=rfl;omega)) ?_;refine L.va (H3 rfl) ?_;refine L.call (K2 rfl func31 rfl kc1 rfl) (fd1 b q nm lt us w0 hB) ?_;rintro _ w9 ⟨rfl,hw9⟩;refine U30 ?_;refine L.call (K2 rfl func127 rfl Zq0 rfl) (Dr0 nm (by omega) w0) ?_;rintro _ w ⟨rfl,O2⟩;have hb:=G0 hb O2;clear O2;refine L.va (cz0 (a:=q++ByteArray.mk #[47]) (b:=mv0 nm) rfl rfl (by have h8:=yi0 (n:=nm) (by omega);rw[ByteArray.size_append];have h9:(ByteArray.mk #[47]).size=1:=rfl;omega)) ?_;refine U19 ?_;exact U49
theorem Tc0 (w0:World):C prog 75 #[.pointer none] w0 fun v w=>v= .string ((ByteArray.mk #[])++ByteArray.mk #[47]++mv0 (-1))/\Below w0.heap.size w0 w:=by
 refine C.enter (n:=10) func75 rfl rfl ?_;refine U1 ?_;intro hb;refine U19 ?_;refine U48 ?_;refine L.call (K2 rfl func30 rfl kb1 rfl) (Ru0 w0) ?_;rintro _ w9 ⟨rfl,hw9⟩;refine U30 ?_;refine L.va (cz0 (a:=(ByteArray.mk #[])) (b:=ByteArray.mk #[47]) rfl rfl (by have h9:(ByteArray.mk #[47]).size=1:=rfl;have h8:(ByteArray.mk #[]).size=0:=rfl;omega)) ?_;refine L.va (H3 rfl) ?_;refine L.call (K2 rfl func31 rfl kc1 rfl) (Rv0 w0) ?_;rintro _ w9 ⟨rfl,hw9⟩;refine U30 ?_;refine L.call (K2 rfl func127 rfl Zq0 rfl) (Dr0 (-1) (by omega) w0) ?_;rintro _ w ⟨rfl,O2⟩;have hb:=G0 hb O2;clear O2;refine L.va (cz0 (a:=(ByteArray.mk #[])++ByteArray.mk #[47]) (b:=mv0 (-1)) rfl rfl (by have h8:=yi0 (n:=(-1)) (by omega);rw[ByteArray.size_append];have h9:(ByteArray.mk #[47]).size=1:=rfl;have h7:(ByteArray.mk #[]).size=0:=rfl;omega)) ?_;refine U19 ?_;exact U49
end
end Go.Vy.Sc
end
section
namespace Go.Vy.Sc
open Go Go.Conc Go.Yc Go.RowKit Go.Proofs Go.Proofs.YtinppmaojmdmhaaGreat Tryz
open Go.Vc Go.Wg
theorem Tn.trans {p:W4} {fb:Nat->FuncId} {q:PR (S0 p)} {L2:World} {i cb:Nat} {top:List Frame} {N:Nat} {m0 m1 m2:Gm} {w0 u v:World} {F0:Nat->Prop} {o1 o2:k6 E3 Lb} {k1 k2:Nat} {r1 r2:o6} (h:Tn p fb q L2 i cb top N m0 w0 F0 m1 u o1 k1 r1) (hN:N <=u.heap.size) (h':Tn p fb q L2 i cb top u.heap.size m1 u (SF p m1 o1.s r1) m2 v o2 k2 r2):Tn p fb q L2 i cb top N m0 w0 F0 m2 v o2 k2 r2 :=
 ⟨h'.at_,h.le.trans h'.le,h.c6.trans (h'.c6.down hN)⟩
theorem Li0 [Ctx prog] (c:Option Addr) (w0:World):C prog 26 #[.pointer none,.pointer c] w0 fun v w=>v= .tuple #[]/\w=w0:=by
 refine C.enter (n:=12) func26 rfl rfl ?_;refine U529 ?_;refine U225 ?_;refine U78 ?_;exact⟨rfl,rfl⟩
theorem Ds0 [Ctx prog] (c:Option Addr) (w0:World):C prog 27 #[.pointer none,.pointer c] w0 fun v w=>v= .tuple #[]/\w=w0:=by
 refine C.enter (n:=12) func27 rfl rfl ?_;refine U529 ?_;refine U225 ?_;refine U78 ?_;exact⟨rfl,rfl⟩
theorem Xz0 [Ctx prog] (t:Addr) (c:Option Addr) (w0:World):C prog 28 #[.pointer (some t),.pointer c,.pointer none] w0 fun v w=>v= .tuple #[]/\w=w0:=by
 refine C.enter (n:=92) func28 rfl rfl ?_;refine U301 ?_;refine U36 ?_;refine U500 ?_;refine U233 ?_;refine L.off rfl ?_;refine L.va (p6 rfl) ?_;refine U33 ?_;refine U58 ?_;refine ends.none (.inr rfl) rfl ?_;exact⟨rfl,rfl⟩
theorem gc1 {p:W4} {fb:Nat->FuncId} {q:PR (S0 p)} {L2:World} {i cb:Nat} {top:List Frame} {m:Gm} {w0:World} {o:k6 E3 Lb} {k:Nat} {r:o6} {lb:Lb} (h:SAt p fb q L2 i cb top m w0 o k r) (hk:k=o.nts.length) (hf:o.N1= .inl lb) (hp:lb.ph= .j5) (hqs:lb.q.size <=1000000000000) :
  @Calls prog (I0 (B3 p fb q L2 i cb top)) 29 #[.pointer (some ⟨p.tb,0,none⟩),.pointer (some ⟨cb,0,none⟩),.string lb.q] w0 (A3 (B3 p fb q L2 i cb top) w0 fun v u=>∃m1 o1 r1,Tn p fb q L2 i cb top w0.heap.size m w0 (SF p m o.s r) m1 u o1 0 r1 /\
   ∃e s',v= .pointer (some ⟨eb m1 e,0,none⟩)/\o1=P6 p.n ((p.bo i).drop lb.k) lb.k (o3 lb.has lb.to (some e)) s' []/\e<s'.en.length):=by
 letI:Ctx prog:=I0 (B3 p fb q L2 i cb top);refine B8 (n:=24) func29 rfl rfl fun Z hZ cs L5=>?_;have hb:(base 29).kind≠.early:=by decide
 have hN:=Tn.start h;have hok:=h.ok;have hjq:=((h.L3 lb hf).st (by rw[hp];rfl)).symm;refine U4 ?_;refine L.va (dr0 rfl) ?_;refine U11 ?_;refine U12 ?_;refine L.va (c5 rfl rfl underlying23) ?_;refine U72 ?_;refine ZA.seq hZ ?_;refine U32 ?_;refine U188 ?_;refine L.va v5 ?_;refine L.Y2 rfl (r6 rfl rfl rfl func58 rfl rc1 rfl) (Sr0 hN.at_ hk hf hp hjq hqs) ?_ ?_ (fun _ h=>h)
 ·rintro v w ⟨m1,o1,r1,hN1,hv⟩;have hN:=hN.trans hN.c6.size hN1;clear hN1;rcases hv with⟨e,s1,rfl,rfl,hel⟩|⟨s1,rfl,rfl⟩
  ·refine L.va (vv0 rfl) ?_;refine U256 ?_;refine U304 ?_;refine U9 ?_;refine U65 ?_;refine U50 ?_;refine U12 ?_;refine U328 ?_;refine U507 ?_;exact⟨m1,_,r1,hN,e,s1,rfl,rfl,hel⟩
  ·refine L.va (vv0 rfl) ?_;refine U256 ?_;refine U306 ?_;refine U9 ?_;refine U65 ?_;refine U72 ?_;refine U32 ?_;refine U188 ?_;refine L.va v5 ?_;refine L.Y2 rfl (r6 rfl rfl rfl func59 rfl rd1 rfl) (Xu0 (lb:={lb with ph:=.lck}) hN.at_ rfl rfl rfl hjq hqs) ?_ ?_ (fun _ h=>h)
   ·rintro v w ⟨m2,o2,r2,hN1,e,s2,rfl,rfl,hel⟩;have hN:=hN.trans hN.c6.size hN1;clear hN1;refine L.va (dr0 rfl) ?_;refine U9 ?_;refine ZA.ret hZ ?_;refine U507 ?_;exact⟨m2,_,r2,hN,e,s2,rfl,rfl,hel⟩
   ·rintro ch u ⟨l7,hh⟩;exact ZP.leave rfl func29 L5 ⟨l7,hh.at hN.c6.os hN.c6.output⟩
 ·rintro ch u ⟨l7,hh⟩;exact ZP.leave rfl func29 L5 ⟨l7,hh.at hN.c6.os hN.c6.output⟩
theorem Ya0 {p:W4} {fb:Nat->FuncId} {q:PR (S0 p)} {L2:World} {i cb:Nat} {top:List Frame} {m:Gm} {w0:World} {o:k6 E3 Lb} {k:Nat} {r:o6} {lb:Lb} {e:Nat} (h:SAt p fb q L2 i cb top m w0 o k r) (hk:k=o.nts.length) (hf:o.N1= .inl lb) (hp:lb.ph= .n5 e) :
  @Calls prog (I0 (B3 p fb q L2 i cb top)) 26 #[.pointer (some ⟨eb m e,0,none⟩),.pointer (some ⟨cb,0,none⟩)] w0 (A3 (B3 p fb q L2 i cb top) w0 fun v u=>∃m1 o1 r1,Tn p fb q L2 i cb top w0.heap.size m w0 (SF p m o.s r) m1 u o1 0 r1/\v= .tuple #[]/\∃s',o1=P6 p.n ((p.bo i).drop lb.k) lb.k lb.has s' []):=by
 letI:Ctx prog:=I0 (B3 p fb q L2 i cb top);refine B8 (n:=12) func26 rfl rfl fun Z hZ cs L5=>?_;have hb:(base 26).kind≠.early:=by decide
 have hN:=Tn.start h;have hok:=h.ok;have he:=(h.L3 lb hf).e e (by rw[hp];rfl);have G7:=(h.mem.en e he).hE;unfold enC at G7;refine U525 ?_;refine U50 ?_;refine U32 ?_;refine U10 ?_;refine U409 ?_;refine L.va (H3 rfl) ?_;refine L.Y2 rfl (P2 rfl rfl func48 rfl qy1 rfl) (Xk0 hN.at_ hk hf hp) ?_ ?_ (fun _ h=>h)
 ·rintro v w ⟨s1,m1,r1,g1,g2,g3,g4,g5,rfl⟩;have hN:=hN.go hN.c6.size g1 g2 g3;rw[Sx0 hp]at hN;refine U9 ?_;refine ZA.done hZ ?_;refine ZR.leave rfl func26 L5 ?_;exact U516
 ·rintro ch u ⟨l7,hh⟩;exact ZP.leave rfl func26 L5 ⟨l7,hh.at hN.c6.os hN.c6.output⟩
theorem Lj0 {p:W4} {fb:Nat->FuncId} {q:PR (S0 p)} {L2:World} {i cb:Nat} {top:List Frame} {m:Gm} {w0:World} {o:k6 E3 Lb} {k:Nat} {r:o6} {lb:Lb} {e:Nat} (h:SAt p fb q L2 i cb top m w0 o k r) (hk:k=o.nts.length) (hf:o.N1= .inl lb) (hp:lb.ph= .W2 e) :
  @Calls prog (I0 (B3 p fb q L2 i cb top)) 27 #[.pointer (some ⟨eb m e,0,none⟩),.pointer (some ⟨cb,0,none⟩)] w0 (A3 (B3 p fb q L2 i cb top) w0 fun v u=>∃m1 o1 r1,Tn p fb q L2 i cb top w0.heap.size m w0 (SF p m o.s r) m1 u o1 0 r1/\v= .tuple #[]/\∃s',o1=P6 p.n ((p.bo i).drop lb.k) lb.k lb.has s' []):=by
 letI:Ctx prog:=I0 (B3 p fb q L2 i cb top);refine B8 (n:=12) func27 rfl rfl fun Z hZ cs L5=>?_;have hb:(base 27).kind≠.early:=by decide
 have hN:=Tn.start h;have hok:=h.ok;have he:=(h.L3 lb hf).e e (by rw[hp];rfl);have G7:=(h.mem.en e he).hE;unfold enC at G7;refine U525 ?_;refine U50 ?_;refine U32 ?_;refine U10 ?_;refine U409 ?_;refine L.va (H3 rfl) ?_;refine L.Y2 rfl (P2 rfl rfl func49 rfl qz1 rfl) (Lc0 hN.at_ hk hf hp) ?_ ?_ (fun _ h=>h)
 ·rintro v w ⟨s1,m1,r1,g1,g2,g3,g4,g5,rfl⟩;have hN:=hN.go hN.c6.size g1 g2 g3;rw[Gt0 hp]at hN;refine U9 ?_;refine ZA.done hZ ?_;refine ZR.leave rfl func27 L5 ?_;exact U516
 ·rintro ch u ⟨l7,hh⟩;exact ZP.leave rfl func27 L5 ⟨l7,hh.at hN.c6.os hN.c6.output⟩
end Go.Vy.Sc
end
section
namespace Go.Vy
open Go Go.Yc Go.RowKit
open Go.Vc
theorem W.fp [Go.Vc.B4] {P:Program} [Ctx P] {n:Nat} {id:Nat} {l:List Oper} {Q:Exit->Env->World->Prop} {e:Env} {w:World} (k:Nat) (ch aw:List Nat) (os:List Nat) (PQ:List PanicEntry->World->Prop) (K:World->Prop) (hm:P.follows .mixedOrders=true) (hB:Bk0 n l.toArray k=true) (hA:pp0 l k=true) (hk:Nat.ble k l.length=true) (hO:wb0 l k (fun i=>ch.contains i) os=true) (hal:iy1 l os (fun i=>aw.contains i)=true)
  (hPQ:∀c w e,PQ c w->Q (.panic c) e w) (hK:K w.drew) (h:FP P n l PQ (fun i=>ch.contains i) (fun i=>aw.contains i) (fun e' w'=>L P n l.toArray Q (l.drop k) e' w') os K e w.drew):W P n (.region id l.toArray true) Q e w:=by
 intro a ha;refine wp_region_draw fun t=>?_;simp only[Region.schedule,hm,Bool.true_or,if_true];have H5:=jw0 l.toArray l.toArray.size t (Array.replicate l.toArray.size false) (by simp) (by simp);unfold Region.linearise;generalize Region.linearise.go .any l.toArray l.toArray.size t (Array.replicate l.toArray.size false) []=σ at H5⊢;exact Zf0 (or0 hB) hA (Nat.le_of_ble_eq_true hk) (ky0 (T9 H5) (fun p hp=>by cases hp) hO) (Vc0 (T9 H5) hal) H5 (T9 H5) hPQ hK h ha
end Go.Vy
end
section
namespace Go.Vy.Sc
open Go Go.Conc Go.Yc Go.RowKit Go.Proofs Go.Proofs.YtinppmaojmdmhaaGreat Tryz
open Go.Vc Go.Wg
section
variable {n j:Nat}{ops:List SOp}{has:Nat->Option Nat}{s:E3}{nts:List Nte}{o:SOp}{e:Nat}
theorem ee0 {α:Type} {l:List α} {j:Nat} {o:α} (h:l[j]? =some o):l.drop j=o::l.drop (j+1):=by
 obtain⟨h1,h2⟩:=List.getElem?_eq_some_iff.1 h;rw[List.drop_eq_getElem_cons h1,h2]
theorem Dt0 (ho:ops[j]? =some o) (h1:o.kind=1):P6 n (ops.drop j) j has s nts=⟨s,nts,.inl ⟨j+1,has,plc o,M9 n o.key,o.key,.j5,0,kj0,[]⟩⟩:=by
 rw[ee0 ho];unfold P6;rw[if_pos h1]
theorem lw0 (ho:ops[j]? =some o) (h1:o.kind=5):P6 n (ops.drop j) j has s nts=P6 n (ops.drop (j+1)) (j+1) has s (nts ++ [⟨1,am0 s (has (plc o))⟩]):=by
 rw[ee0 ho];rw[P6];rw[if_neg (by omega),if_pos h1]
theorem Ak0 (ho:ops[j]? =some o) (h1:o.kind≠1) (h5:o.kind≠5) (hh:has (plc o)=none):P6 n (ops.drop j) j has s nts=P6 n (ops.drop (j+1)) (j+1) has s nts:=by
 rw[ee0 ho];rw[P6];rw[if_neg h1,if_neg h5,hh]
theorem Du0 (ho:ops[j]? =some o) (h1:o.kind=2) (hh:has (plc o)=some e):P6 n (ops.drop j) j has s nts=⟨s,nts,.inl ⟨j+1,has,0,0,(gE s e).key,.n5 e,(gE s e).num,kj0,[]⟩⟩:=by
 rw[ee0 ho];rw[P6];rw[if_neg (by omega),if_neg (by omega),hh];simp only[if_pos h1]
theorem rh0 (ho:ops[j]? =some o) (h1:o.kind=3) (hh:has (plc o)=some e):P6 n (ops.drop j) j has s nts=⟨s,nts,.inl ⟨j+1,has,0,0,(gE s e).key,.W2 e,(gE s e).num,kj0,[]⟩⟩:=by
 have h2:¬o.kind=2:=by omega
 rw[ee0 ho];rw[P6];rw[if_neg (by omega),if_neg (by omega),hh];simp only[if_neg h2,if_pos h1]
theorem Dv0 (ho:ops[j]? =some o) (h1:o.kind=4) (hh:has (plc o)=some e):P6 n (ops.drop j) j has s nts=⟨s,nts,.inl ⟨j+1,o3 has (plc o) none,0,M9 n (gE s e).key,(gE s e).key,.less e,(gE s e).num,kj0,[]⟩⟩:=by
 have h2:¬o.kind=2:=by omega
 have h3:¬o.kind=3:=by omega
 rw[ee0 ho];rw[P6];rw[if_neg (by omega),if_neg (by omega),hh];simp only[if_neg h2,if_neg h3,if_pos h1]
theorem Td0 (ho:ops[j]? =some o) (h1:o.kind≠1) (h2:o.kind≠2) (h3:o.kind≠3) (h4:o.kind≠4) (h5:o.kind≠5):P6 n (ops.drop j) j has s nts=P6 n (ops.drop (j+1)) (j+1) has s nts:=by
 rw[ee0 ho];rw[P6];rw[if_neg h1,if_neg h5];cases has (plc o)with
 |none=>rfl
 |some e=>simp only[if_neg h2,if_neg h3,if_neg h4]
theorem Al0 (h:ops.length <=j):P6 n (ops.drop j) j has s nts=⟨s,nts,.inr 1⟩:=by
 rw[List.drop_eq_nil_of_le h];rfl
theorem jf0 (n:Nat):∀(rest:List SOp) (k:Nat) (has:Nat->Option Nat) (s:E3) (nts:List Nte),∃l,(P6 n rest k has s nts).nts=nts++l/\l.length <=rest.length
 | [],_,_,_,nts=>⟨[],(List.append_nil nts).symm,Nat.le_refl _⟩
 |o::rest,k,has,s,nts=>by
  have up:∀{x:k6 E3 Lb} {oi1:List Nte},(∃l,x.nts=oi1++l/\l.length <=rest.length)->∃l,x.nts=oi1++l/\l.length <=(o::rest).length:=fun⟨l,h1,h2⟩=>⟨l,h1,Nat.le_succ_of_le h2⟩
  unfold P6;split
  ·exact⟨[],(List.append_nil nts).symm,Nat.zero_le _⟩
  split
  ·obtain⟨l,h,h2⟩:=jf0 n rest (k+1) has s (nts ++ [⟨1,am0 s (has (plc o))⟩]);exact⟨[⟨1,am0 s (has (plc o))⟩]++l,by rw[h,List.append_assoc],by simp;omega⟩
  split
  ·exact up (jf0 n rest _ _ _ _)
  split
  ·exact⟨[],(List.append_nil nts).symm,Nat.zero_le _⟩
  split
  ·exact⟨[],(List.append_nil nts).symm,Nat.zero_le _⟩
  split
  ·exact⟨[],(List.append_nil nts).symm,Nat.zero_le _⟩
  ·exact up (jf0 n rest _ _ _ _)
end
def oj1 (o:SOp):Array Value:=#[.int .i64 o.kind,.int .i64 o.rc0,.string o.key]
structure kl0 (w:World) (oa:Option Addr) (ops:List SOp):Prop where
 sl:SL oa ops.length
 cell:∀(k:Nat) (o:SOp),ops[k]? =some o->∀(j:Nat) (v:Value),(oj1 o)[j]? =some v->w.cell? ⟨ab oa,ao oa+k*3+j,none⟩=some v
theorem kl0.j0 {w w':World} {oa:Option Addr} {ops:List SOp} (h:kl0 w oa ops) (hb:Below w.heap.size w w'):kl0 w' oa ops:=⟨h.sl,fun k o ho j v hj=>cj0 (h.cell k o ho j v hj) hb⟩
structure Dw0 (p:W4) (i ob tp:Nat) (oa:Option Addr) (oc:Nat):Prop where
 rob:p.RO ob
 rtp:p.RO tp
 roa:0<(p.bo i).length->p.RO (ab oa)
 hob:K0 p.wI ob #[.slice oa (p.bo i).length oc] 86
 htp:K0 p.wI tp #[.pointer (some ⟨p.tb,0,none⟩)] 23
 ops:kl0 p.wI oa (p.bo i)
 len:(p.bo i).length <=200
section
variable {p:W4}{m:Gm}{w:World}{s:E3}{r:o6}{i ob tp oc:Nat}{oa:Option Addr}
theorem Dw0.ob_ (h:Dw0 p i ob tp oa oc) (hE:W3 p m w s r):K0 w ob #[.slice oa (p.bo i).length oc] 86:=(hE.ro ob h.rob).trans h.hob
theorem Dw0.tp_ (h:Dw0 p i ob tp oa oc) (hE:W3 p m w s r):K0 w tp #[.pointer (some ⟨p.tb,0,none⟩)] 23:=(hE.ro tp h.rtp).trans h.htp
theorem Dw0.Yb0 (h:Dw0 p i ob tp oa oc) (hE:W3 p m w s r):kl0 w oa (p.bo i):=⟨h.ops.sl,fun k o ho j v hj=>by
 have hl:0<(p.bo i).length:=by have:=(List.getElem?_eq_some_iff.1 ho).1;omega
 rw[(w8 (u:=p.wI) (u':=w) (a:=⟨ab oa,ao oa+k*3+j,none⟩) (hE.ro _ (h.roa hl))).1];exact h.ops.cell k o ho j v hj⟩
end
theorem Lk0 {K:Y9 prog} {f:FuncId} {args:Array Value} {u:World} (hf:K.Ns0=f) (h:@Calls prog (I0 K) f args u (fun e w=>∃F,K.Ju0 w F e)):ah0 K (G (Frame.enter prog f args .normal) K.top) u :=
 h (ah0 K) rfl K.top fun _e _w' _fr he h3 h4=>.done (h3.trans hf.symm) h4 he.choose_spec
def Am0 (m:Gm):Option Nat->Value
 |none=>.pointer none
 |some e=>.pointer (some ⟨eb m e,0,none⟩)
section
variable {p:W4}{fb:Nat->FuncId}{q:PR (S0 p)}{L2:World}{i cb:Nat}{top:List Frame}
theorem SAt.ok1 {m:Gm} {w:World} {o:k6 E3 Lb} {k:Nat} {r:o6} {v:Value} (h:SAt p fb q L2 i cb top m w o k r) (hk:k=o.nts.length) (hf:o.N1= .inr 1):∃F,(B3 p fb q L2 i cb top).Ju0 w F (.returned v) :=
 ⟨_,.inl ⟨m,h.c.iq0 hk hf (fun _ _=>h.gu) ⟨r,rfl,h.mem⟩⟩⟩
theorem SAt.ol1 {m:Gm} {w w':World} {o:k6 E3 Lb} {k:Nat} {r:o6} (h:SAt p fb q L2 i cb top m w o k r) (hg:io0 w w') (g0:gh w' 0=gh w 0) (g1:gh w' 1=gh w 1+1) (g2:gh w' 2=0) (gm_:gm w'=gm w):SAt p fb q L2 i cb top m w' o (k+1) r :=
 ⟨h.ok,h.im,h.mem.congr fun b hb=>hg.block b (h.mem.vis h.ok hb).1,by rw[gm_];exact h.gu,⟨g2,by rw[g1,h.c.nts],by rw[g0];exact h.c.out,hg.os.trans h.c.os,hg.output.trans h.c.output⟩,h.so,h.L3⟩
structure BS (p:W4) (fb:Nat->FuncId) (q:PR (S0 p)) (L2:World) (i cb:Nat) (top:List Frame) (b4:Nat) (w:World) (j:Nat) (has:Nat->Option Nat) (s:E3) (nts:List Nte) (m:Gm) (r:o6):Prop where
 at_:SAt p fb q L2 i cb top m w (P6 p.n ((p.bo i).drop j) j has s nts) nts.length r
 hA:K0 w b4 (arr 4 fun x=>Am0 m (has x)) 166
 nf:¬SF p m s r b4
 hh:∀x e,has x=some e->e<s.en.length
 jn:j <=(p.bo i).length
variable {b4 j:Nat}{w v:World}{has hv Yc0:Nat->Option Nat}{s s1:E3}{nts:List Nte}{m m1:Gm}{r r1:o6}{o1:k6 E3 Lb}
theorem BS.j0 (h:BS p fb q L2 i cb top b4 w j has s nts m r) {w':World} (hb:Below w.heap.size w w'):BS p fb q L2 i cb top b4 w' j has s nts m r :=
 ⟨h.at_.j0 hb,h.hA.j0 hb,h.nf,h.hh,h.jn⟩
theorem BS.mem (h:BS p fb q L2 i cb top b4 w j has s nts m r):W3 p m w s r:=by have h1:=h.at_.mem;rw[r8]at h1;exact h1
theorem BS.so (h:BS p fb q L2 i cb top b4 w j has s nts m r):SOk p.n p.m (ue0 p) s:=by have h1:=h.at_.so;rw[r8]at h1;exact h1
theorem BS.skip (h:BS p fb q L2 i cb top b4 w j has s nts m r) (hj:j<(p.bo i).length) (ha:P6 p.n ((p.bo i).drop j) j has s nts=P6 p.n ((p.bo i).drop (j+1)) (j+1) has s nts):BS p fb q L2 i cb top b4 w (j+1) has s nts m r :=
 ⟨ha▸h.at_,h.hA,h.nf,h.hh,hj⟩
theorem Dx0 (hN:Tn p fb q L2 i cb top w.heap.size m w (SF p m s r) m1 v o1 0 r1) (hM:W3 p m w s r) (hA:K0 w b4 (arr 4 fun x=>Am0 m (hv x)) 166) (nf:¬SF p m s r b4) (hh:∀x e,hv x=some e->e<s.en.length) :
  K0 v b4 (arr 4 fun x=>Am0 m1 (hv x)) 166/\¬SF p m1 o1.s r1 b4/\∀x e,hv x=some e->e<o1.s.en.length:=by
 have h1:=hN.c6.blk hA (by rw[T5];decide) (P3 hA).lt nf;have key:∀x e,hv x=some e->e<o1.s.en.length/\eb m1 e=eb m e:=fun x e hx=>by
  have h2:=b6 hM hN.at_.mem hN.le (hh x e hx)
  exact⟨h2.1,h2.2.1⟩
 refine⟨?_,h1.2,fun x e hx=>(key x e hx).1⟩;have e1:(arr 4 fun x=>Am0 m1 (hv x))=arr 4 fun x=>Am0 m (hv x):=Jp0 fun x _=>by
  cases hx:hv x with
  |none=>rfl
  |some e=>show Value.pointer (some ⟨eb m1 e,0,none⟩)= .pointer (some ⟨eb m e,0,none⟩);rw[(key x e hx).2]
 rw[e1];exact h1.1
theorem BS.next (hN:Tn p fb q L2 i cb top w.heap.size m w (SF p m s r) m1 v (P6 p.n ((p.bo i).drop (j+1)) (j+1) Yc0 s1 []) 0 r1) (hM:W3 p m w s r) (hA:K0 w b4 (arr 4 fun x=>Am0 m (Yc0 x)) 166) (nf:¬SF p m s r b4) (hh:∀x e,Yc0 x=some e->e<s.en.length) (hj:j<(p.bo i).length):BS p fb q L2 i cb top b4 v (j+1) Yc0 s1 [] m1 r1:=by
 obtain⟨a,b,c⟩:=Dx0 hN hM hA nf hh;rw[r8]at b c;exact⟨hN.at_,a,b,c,hj⟩
theorem BS.tf1 {e pl:Nat} {u:World} (hN:SAt p fb q L2 i cb top m1 v (P6 p.n ((p.bo i).drop (j+1)) (j+1) (o3 has pl (some e)) s1 []) 0 r1) (nf:¬SF p m1 s1 r1 b4) (hh:∀x e,has x=some e->e<s1.en.length) (he:e<s1.en.length) (hj:j<(p.bo i).length)
  (A1:K0 u b4 (arr 4 fun x=>Am0 m1 (o3 has pl (some e) x)) 166) (hg:v.grownBy u (some b4)):BS p fb q L2 i cb top b4 u (j+1) (o3 has pl (some e)) s1 [] m1 r1 :=
 ⟨hN.j6 hg (by rw[r8];exact nf),A1,nf,fun x e' hx=>by
  by_cases h:x=pl
  ·rw[h,Y0]at hx;cases hx;exact he
  ·rw[Z0 h]at hx;exact hh x e' hx,hj⟩
theorem BS.iq0 {pl:Nat} {u:World} (h:BS p fb q L2 i cb top b4 w j has s nts m r) (hj:j<(p.bo i).length) (ha:P6 p.n ((p.bo i).drop j) j has s nts=P6 p.n ((p.bo i).drop (j+1)) (j+1) has s (nts ++ [⟨1,am0 s (has pl)⟩])) (hg:io0 w u) (g0:gh u 0=gh w 0) (g1:gh u 1=gh w 1+1) (g2:gh u 2=0) (gm_:gm u=gm w):BS p fb q L2 i cb top b4 u (j+1) has s (nts ++ [⟨1,am0 s (has pl)⟩]) m r:=by
 have h1:=h.at_.ol1 hg g0 g1 g2 gm_
 rw[ha]at h1;exact⟨by rw[List.length_append];exact h1,(hg.block b4 (P3 h.hA).lt).trans h.hA,h.nf,h.hh,hj⟩
theorem BS.note {pl:Nat} (h:BS p fb q L2 i cb top b4 w j has s nts m r) (ha:P6 p.n ((p.bo i).drop j) j has s nts=P6 p.n ((p.bo i).drop (j+1)) (j+1) has s (nts ++ [⟨1,am0 s (has pl)⟩])):((B3 p fb q L2 i cb top).out (gh w 0)).nts[gh w 1]? =some ⟨1,am0 s (has pl)⟩:=by
 have h1:=h.at_.c.out
 have h2:=h.at_.c.nts
 rw[h1,h2,ha];obtain⟨l,hl,_⟩:=jf0 p.n ((p.bo i).drop (j+1)) (j+1) has s (nts ++ [⟨1,am0 s (has pl)⟩]);rw[hl,List.append_assoc];simp
theorem gd1 (hp:A5 p) (hs:SOk p.n p.m (ue0 p) s) {e:Nat} (he:e<s.en.length):(-9223372036854775808:Int) <=((gE s e).num:Nat)/\(((gE s e).num:Nat):Int) <=9223372036854775807:=by
 have h1:=hs.nu e he;have h2:=hs.re0 hp;have h3:p.n*s.en.length <=64*200:=Nat.mul_le_mul hp.n.2 h2;omega
theorem SAt.start {u:World} {F:Nat->Prop} (hs:Fn0 (B3 p fb q L2 i cb top) ((S0 p).beg i) u F) (hp:A5 p) (hi:i<p.m):∃s r,SAt p fb q L2 i cb top (gm u) u (P6 p.n (p.bo i) 0 (fun _=>none) s []) 0 r:=by
 obtain⟨r,hF,hM⟩:∃r,F=SF p (gm u) ((S0 p).sAt q (gh u 0)) r/\W3 p (gm u) u ((S0 p).sAt q (gh u 0)) r:=hs.inv;obtain⟨ht,p',hR,_,e1,e2⟩:=hs.at_
 have hT:=Ad0 hp.n.1 p' hR;have hB:=hT.beg hp.n.1;have ho:(B3 p fb q L2 i cb top).out (gh u 0)=P6 p.n (p.bo i) 0 (fun _=>none) ((S0 p).sAt q (gh u 0)) []:=hs.out;rw[e1]at hT hB;obtain⟨s0,hs0⟩:∃s0:E3,(S0 p).sAt q (gh u 0)=s0:=⟨_,rfl⟩
 rw[hs0]at hM hT hB ho;refine⟨s0,r,⟨hp,hi,by rw[r8];exact hM,LeG.refl _,⟨hs.on,hs.nts,ho,hs.os,hs.output⟩,by rw[r8];exact hT.so,fun b hb=>?_⟩⟩;rw[r8];subst e2;exact hB.L3 _ b (by rw[List.getElem?_append_right (Nat.le_refl _),Nat.sub_self];exact congrArg some hb)
end
set_option maxHeartbeats 2000000 in
theorem ge1 {p:W4} {fb:Nat->FuncId} {q:PR (S0 p)} {L2:World} {i cb:Nat} {top:List Frame} {sI:E3} {mI:Gm} {rI:o6} {ob tp oc:Nat} {oa:Option Addr} (hD:Dw0 p i ob tp oa oc) (w0:World) (h:SAt p fb q L2 i cb top mI w0 (P6 p.n (p.bo i) 0 (fun _=>none) sI []) 0 rI) :
  @Calls prog (I0 (B3 p fb q L2 i cb top)) 72 #[.pointer (some ⟨cb,0,none⟩),.pointer (some ⟨ob,0,none⟩),.pointer (some ⟨tp,0,none⟩)] w0 (fun e u=>∃F',(B3 p fb q L2 i cb top).Ju0 u F' e):=by
 letI:Ctx prog:=I0 (B3 p fb q L2 i cb top);refine Calls.n6 (n:=70) func72 rfl rfl ?_;have hlen:=hD.len;refine U0 ?_;refine L.alloc (cs:=#[.pointer none,.pointer none,.pointer none,.pointer none]) js1 rfl (fun w b4 F4=>?_);have lt4:=Nat.le_refl w.heap.size;have n4:=h.fresh (Nat.le_of_eq F4.here.symm);have h:=h.j0 F4.below;have X1:=F4.blk;refine U26 ?_;refine U53 ?_;have hE:=BS.mk (nts:=[]) (j:=0) (has:=fun _=>none) h X1 (by rw[r8]at n4;exact n4) (fun x e hx=>by cases hx) (Nat.zero_le _);refine W.loop (fun k e w=>∃j:Nat,∃has:Nat->Option Nat,∃s:E3,∃nts:List Nte,∃m:Gm,∃r:o6,k=(p.bo i).length-j/\e 0= .p cb/\e 1= .pointer (some ⟨ob,0,none⟩)/\e 2= .pointer (some ⟨tp,0,none⟩)/\e 4= .p b4/\e 5= .int .i64 (j:Nat)/\BS p fb q L2 i cb top b4 w j has s nts m r) _ ⟨0,(fun _=>none),sI,[],mI,rI,rfl,rfl,rfl,rfl,rfl,rfl,hE⟩ ?_;rintro k e w ⟨j,has,s,nts,m,r,hk,s0,s1,s2,s4,s5,hE⟩;rw[P0 s0,P0 s1,P0 s2,P0 s4,P0 s5];clear s0 s1 s2 s4 s5;have hok:=hE.at_.ok
 have hOb:=hD.ob_ hE.mem;have hTp:=hD.tp_ hE.mem;have lx0:=hD.Yb0 hE.mem;have hsl:=lx0.sl;refine U14 ?_;refine L.va (A0 rfl underlying86 rfl (hOb.q0 0 (v:=.slice oa ((p.bo i).length) oc) rfl)) ?_;refine L.va (M6 rfl underlying86 rfl) ?_;refine U61 ?_;refine W.w6 rfl (fun h11=>?_) (fun h11=>?_)
 ·have J1:j<(p.bo i).length:=by omega
  obtain⟨o,ho⟩:∃o,(p.bo i)[j]? =some o:=⟨_,List.getElem?_eq_getElem J1⟩
  refine U24 ?_;refine U431 ?_;refine U433 ?_;refine L.va (A0 (v:=.int .i64 o.rc0) rfl underlying3 rfl ((lx0).cell j o ho 1 _ rfl)) ?_;refine L.call (K2 rfl func73 rfl ri1 rfl) (Xy0 o w) ?_;rintro _ w9 ⟨rfl,hw9⟩;refine U30 ?_;refine U5 ?_;refine U0 ?_;refine U431 ?_;refine U433 ?_;refine L.va (A0 (v:=.int .i64 o.kind) rfl underlying3 rfl ((lx0).cell j o ho 0 _ rfl)) ?_;refine U3 ?_;refine W.block ?_;refine U0 ?_;refine L.va (S9 rfl rfl) ?_;refine U7 ?_;refine W.w6 rfl (fun h25=>?_) (fun h25=>?_)
  ·refine W.fp 9 [8] [] [0,1,2,3,4,5,6,7,8] (fun ch u=>∃F',(B3 p fb q L2 i cb top).Ju0 u F' (.panicked ch)) (fun w'=>K0 w' tp #[.p p.tb] 23/\K0 w' ob #[.slice oa ((p.bo i).length) oc] 86/\kl0 w' oa (p.bo i)) (by kernel_rfl) (by kernel_rfl) (by kernel_rfl) (by kernel_rfl) (by kernel_rfl) (by kernel_rfl) (fun _ _ _ h=>h) (⟨hTp.j0 (Below.refl w.heap.size w).drew,hOb.j0 (Below.refl w.heap.size w).drew,lx0.j0 (Below.refl w.heap.size w).drew⟩) ?_;have V3:Below w.heap.size w w.drew:=(Below.refl w.heap.size w).drew;have hE:=hE.j0 V3;clear V3;generalize w.drew=w at *;refine FP.va rfl rfl (fun w' L1=>(C4 rfl)) ?_;refine FP.va rfl rfl (fun w' L1=>(A0 rfl underlying23 rfl (L1.1.q0 0 (v:=.p p.tb) rfl))) ?_;refine FP.va rfl rfl (fun w' L1=>(H3 rfl)) ?_;refine FP.va rfl rfl (fun w' L1=>(A0 rfl underlying86 rfl (L1.2.1.q0 0 (v:=.slice oa ((p.bo i).length) oc) rfl))) ?_;refine FP.va rfl rfl (fun w' L1=>(C4 rfl)) ?_;refine FP.va rfl rfl (fun w' L1=>(S5 (i:=j) rfl rfl underlying86 Vj0 hsl J1)) ?_;refine FP.va rfl rfl (fun w' L1=>(B0 rfl underlying85 rfl sz9 (by decide))) ?_;refine FP.va rfl rfl (fun w' L1=>(A0 (v:=.string o.key) rfl underlying9 rfl ((L1.2.2).cell j o ho 2 _ rfl))) ?_;refine FP.doo rfl rfl ?_;have X7:=hE.at_
   rw[Dt0 ho h25]at X7;have hks:o.key.size <=1000000000000:=X7.ok.ks i o (List.mem_of_getElem? ho);refine L.Y2 rfl (r6 rfl rfl rfl func29 rfl qs1 rfl) (gc1 (lb:=⟨j+1,has,plc o,M9 p.n o.key,o.key,.j5,0,kj0,[]⟩) X7 rfl rfl rfl hks) ?_ ?_ (fun _ h=>h)
   rotate_left
   ·rintro ch u ⟨l7,hh⟩;exact .inr ⟨ch,rfl,hh.done (Sys.kok (tz0 hok)) l7 X7.c.os X7.c.output⟩
   rintro _ w ⟨m1,o1,r1,hN,e,s1,rfl,rfl,hel⟩;have by0:=Dx0 hN X7.mem hE.hA hE.nf hE.hh;clear hOb hTp lx0 hE;have hM1:=hN.at_.mem
   have hOb:=hD.ob_ hM1;have hTp:=hD.tp_ hM1;have lx0:=hD.Yb0 hM1;rw[r8]at by0;obtain⟨hA1,nf1,hh1⟩:=by0;clear X7 hM1;refine L.nil (.inl ⟨rfl,_,.inl rfl,⟨hTp,hOb,lx0⟩,?_⟩);refine FP.nil ?_;show L _ _ _ _ _ _ _;refine L.va (Q8 (i:=plc o) (n:=4) rfl rfl underlying166 lg0 (gp0 o)) ?_;refine L.put (b:=b4) (o:=0+plc o*1) (vs:=[.pointer (some ⟨eb m1 e,0,none⟩)]) (arr 4 fun x=>Am0 m1 (o3 has (plc o) (some e) x)) rfl rfl rfl lg0 rfl rfl hA1 (by rw[T5];have:=gp0 o;omega) (ed0 (gp0 o) (by rw[Y0];rfl) (fun j hj=>by rw[Z0 hj])) (fun w A1 hg N2=>?_);have hE1:=BS.tf1 hN.at_ nf1 hh1 hel J1 A1 hg
   clear hN hA1 nf1 A1 hg N2;exact U39
  ·refine W.seq ?_;refine U232 ?_;refine W.w6 rfl (fun h37=>?_) (fun h37=>?_)
   ·cases gs0:has (plc o)with
    |none=>
    ·refine W.region rfl ?_;refine U164 ?_;refine L.va (H3 rfl) ?_;refine L.call (P2 rfl rfl func26 rfl jy1 rfl) (Li0 (some ⟨cb,0,none⟩) w) ?_;rintro _ w9 ⟨rfl,hw9⟩;refine U30 ?_;have hE1:=hE.skip J1 (Ak0 ho (by omega) (by omega) gs0);clear hE;exact U39
    |some e=>
    ·have X7:=hE.at_
     rw[Du0 ho h37 gs0]at X7;refine W.region rfl ?_;refine U161 ?_;refine L.va (H3 rfl) ?_;refine L.Y2 rfl (P2 rfl rfl func26 rfl jy1 rfl) (Ya0 X7 rfl rfl rfl) ?_ ?_ (fun _ h=>h)
     rotate_left
     ·rintro ch u ⟨l7,hh⟩;exact hh.done (Sys.kok (tz0 hok)) l7 X7.c.os X7.c.output
     rintro _ w ⟨m1,o1,r1,hN,rfl,s1,rfl⟩;have hE1:=BS.next hN X7.mem hE.hA hE.nf hE.hh J1;clear hOb hTp lx0 hE hN X7;exact U39
   ·refine W.seq ?_;refine U232 ?_;refine W.w6 rfl (fun h44=>?_) (fun h44=>?_)
    ·cases gs0:has (plc o)with
     |none=>
     ·refine W.region rfl ?_;refine U164 ?_;refine L.va (H3 rfl) ?_;refine L.call (P2 rfl rfl func27 rfl jz1 rfl) (Ds0 (some ⟨cb,0,none⟩) w) ?_;rintro _ w9 ⟨rfl,hw9⟩;refine U30 ?_;have hE1:=hE.skip J1 (Ak0 ho (by omega) (by omega) gs0);clear hE;exact U39
     |some e=>
     ·have X7:=hE.at_
      rw[rh0 ho h44 gs0]at X7;refine W.region rfl ?_;refine U161 ?_;refine L.va (H3 rfl) ?_;refine L.Y2 rfl (P2 rfl rfl func27 rfl jz1 rfl) (Lj0 X7 rfl rfl rfl) ?_ ?_ (fun _ h=>h)
      rotate_left
      ·rintro ch u ⟨l7,hh⟩;exact hh.done (Sys.kok (tz0 hok)) l7 X7.c.os X7.c.output
      rintro _ w ⟨m1,o1,r1,hN,rfl,s1,rfl⟩;have hE1:=BS.next hN X7.mem hE.hA hE.nf hE.hh J1;clear hOb hTp lx0 hE hN X7;exact U39
    ·refine W.seq ?_;refine U232 ?_;refine W.w6 rfl (fun h51=>?_) (fun h51=>?_)
     ·refine W.seq ?_;cases gs0:has (plc o)with
      |none=>
      ·refine W.region rfl ?_;refine U164 ?_;refine U41 ?_;refine U153 ?_;refine U366 ?_;intro w hA2 hg N2 X7;have hM2:W3 p m w s r:=by have h9:=X7.mem;rw[r8]at h9;exact h9
       have hOb:=hD.ob_ hM2;have hTp:=hD.tp_ hM2;have lx0:=hD.Yb0 hM2;have hh2:∀x e,o3 has (plc o) none x=some e->e<s.en.length:=fun x e hx=>by
        by_cases h:x=plc o
        ·rw[h,Y0]at hx;cases hx
        ·rw[Z0 h]at hx;exact hE.hh x e hx
       have nf2:=hE.nf;clear hg N2 hE;refine U46 ?_;refine U467 ?_;refine L.call (r6 rfl rfl rfl func28 rfl ka1 rfl) (Xz0 _ (some ⟨cb,0,none⟩) w) ?_;rintro _ w9 ⟨rfl,hw9⟩;refine U30 ?_;have hup:o3 has (plc o) none=has:=funext fun x=>by
        by_cases h:x=plc o
        ·rw[h,Y0,gs0]
        ·rw[Z0 h]
       rw[hup]at hA2;rw[hup]at hh2;have hE1:=BS.skip (BS.mk X7 hA2 nf2 hh2 (Nat.le_of_lt J1)) J1 (Ak0 ho (by omega) (by omega) gs0);clear X7 hA2 hM2;exact U39
      |some e=>
      ·refine W.region rfl ?_;refine U161 ?_;refine U41 ?_;refine U153 ?_;refine U366 ?_;intro w hA2 hg N2 X7;have hM2:W3 p m w s r:=by have h9:=X7.mem;rw[r8]at h9;exact h9
       have hOb:=hD.ob_ hM2;have hTp:=hD.tp_ hM2;have lx0:=hD.Yb0 hM2;have hh2:∀x e,o3 has (plc o) none x=some e->e<s.en.length:=fun x e hx=>by
        by_cases h:x=plc o
        ·rw[h,Y0]at hx;cases hx
        ·rw[Z0 h]at hx;exact hE.hh x e hx
       have nf2:=hE.nf;clear hg N2 hE;refine U3 ?_;rw[Dv0 ho h51 gs0]at X7;refine W.region rfl ?_;refine U467 ?_;refine L.Y2 rfl (r6 rfl rfl rfl func28 rfl ka1 rfl) (fv1 X7 rfl rfl rfl) ?_ ?_ (fun _ h=>h)
       rotate_left
       ·rintro ch u ⟨l7,hh⟩;exact hh.done (Sys.kok (tz0 hok)) l7 X7.c.os X7.c.output
       rintro _ w ⟨m1,o1,r1,hN,rfl,s1,rfl⟩;have hE1:=BS.next hN X7.mem hA2 nf2 hh2 J1;clear hOb hTp lx0 hN X7 hA2 hM2;exact U39
     ·refine W.seq ?_;refine U232 ?_;refine W.w6 rfl (fun h62=>?_) (fun h62=>?_)
      ·cases gs0:has (plc o)with
       |none=>
       ·refine W.region rfl ?_;refine L.va (H3 rfl) ?_;refine U164 ?_;refine L.call (K2 rfl func75 rfl kj1 rfl) (Tc0 w) ?_;rintro _ w ⟨rfl,O2⟩;have hE:=hE.j0 O2;clear O2;have htx:am0 s (has (plc o))=(ByteArray.mk #[]++ByteArray.mk #[47]++mv0 (-1)):=by rw[gs0];rfl
        have han:=lw0 (n:=p.n) (has:=has) (s:=s) (nts:=nts) ho h62;have hnt:=hE.note han;rw[htx]at hnt;refine L.call (r6 rfl rfl rfl func74 rfl ki1 rfl) (wu0 rfl hE.at_.c.on hnt) ?_;rintro _ w1 ⟨rfl,hg,g0,g1,g2,g3⟩;have hE1:=hE.iq0 J1 han hg g0 g1 g2 g3;clear hE hOb hTp lx0 hg g0 g1 g2 g3
        rename World=>w
        exact U39
       |some e=>
       ·have G7:=(hE.mem.en e (hE.hh _ _ gs0))
        have hE8:=G7.hE;unfold enC at hE8;refine W.region rfl ?_;refine L.va (H3 rfl) ?_;refine U161 ?_;refine L.call (K2 rfl func75 rfl kj1 rfl) (gb1 _ _ _ _ _ G7.sz (gd1 hE.at_.ok hE.so (hE.hh _ _ gs0)) w hE8) ?_;rintro _ w ⟨rfl,O2⟩;have hE:=hE.j0 O2;clear O2;have htx:am0 s (has (plc o))=((gE s e).key++ByteArray.mk #[47]++mv0 ((gE s e).num:Nat)):=by rw[gs0];rfl
        have han:=lw0 (n:=p.n) (has:=has) (s:=s) (nts:=nts) ho h62;have hnt:=hE.note han;rw[htx]at hnt;refine L.call (r6 rfl rfl rfl func74 rfl ki1 rfl) (wu0 rfl hE.at_.c.on hnt) ?_;rintro _ w1 ⟨rfl,hg,g0,g1,g2,g3⟩;have hE1:=hE.iq0 J1 han hg g0 g1 g2 g3;clear hE hOb hTp lx0 hg g0 g1 g2 g3
        rename World=>w
        exact U39
      ·have hE1:=hE.skip J1 (Td0 ho h25 h37 h44 h51 h62);clear hE;refine W.skip ?_;refine B.nrm ?_;exact U405
 ·refine W.exit ?_;refine U151 ?_;refine U78 ?_;exact hE.at_.ok1 (by rw[Al0 (by omega)]) (by rw[Al0 (by omega)])
structure cf0 (w:World) (ba:Option Addr) (m:Nat) (bo:Nat->List SOp) (oa:Nat->Option Addr) (oc:Nat->Nat):Prop where
 sl:SL ba m
 row:∀i,i<m->w.cell? ⟨ab ba,ao ba+i*1,none⟩=some (.slice (oa i) (bo i).length (oc i))
 ops:∀i,i<m->kl0 w (oa i) (bo i)
 len:∀i,i<m->(bo i).length <=10000000
theorem cf0.j0 {w w':World} {ba:Option Addr} {m:Nat} {bo:Nat->List SOp} {oa:Nat->Option Addr} {oc:Nat->Nat} (h:cf0 w ba m bo oa oc) (hb:Below w.heap.size w w'):cf0 w' ba m bo oa oc :=
 ⟨h.sl,fun i hi=>cj0 (h.row i hi) hb,fun i hi=>(h.ops i hi).j0 hb,h.len⟩
structure Yd0 (n:Int) (m:Nat) (bo:Nat->List SOp) (sn:Nat):Prop where
 n1:1 <=n/\n <=64
 m1:m <=16
 sum:Y8 (fun i=>(bo i).length) m <=200
 sn1:sn <=100000
theorem ri0 {f:Nat->Nat}:∀{m i:Nat},i<m->f i <=Y8 f m
 |m+1,i,h=>by
  rw[H6];rcases Nat.lt_or_eq_of_le (Nat.le_of_lt_succ h)with z|z
  ·have:=ri0 (f:=f) z;omega
  ·subst z;omega
theorem Ll0 {bo:Nat->List SOp} {i m:Nat} {x:Int} (hl:∀j,j<m->(bo j).length <=10000000) (hi:i<m) (hx:i <=16->x=(Y8 (fun j=>(bo j).length) i:Nat)) (h:i+1 <=16):IntKind.i64.wrap (x+((bo i).length:Int))=(Y8 (fun j=>(bo j).length) (i+1):Nat):=by
 have h1:=zz0 (f:=fun j=>(bo j).length) (n:=i) (B:=10000000) fun j hj=>hl j (by omega);have h2:=hl i hi;have h3:=hx (by omega);have h4:i*10000000 <=16*10000000:=Nat.mul_le_mul_right _ (by omega);rw[H6,IntWalk.i64_in _ (by omega),h3];omega
theorem Ye0 (n:Nat) (ops:List SOp) (i:Nat) (b:Lb) (s:E3):(A4 n ops i b s).nts.length <=ops.length:=by
 have key:∀has s,(P6 n (ops.drop b.k) b.k has s []).nts.length <=ops.length:=fun has s=>by
  obtain⟨l,h1,h2⟩:=jf0 n (ops.drop b.k) b.k has s [];rw[h1,List.nil_append];rw[List.length_drop]at h2;omega
 unfold A4;cases b.ph with
 |look=>show(match bo0 s b.j b.q with|some e=>(_:k6 E3 Lb)|none=>_).nts.length <=_;split <;> exact Nat.zero_le _
 |cd0=>show(match bo0 s b.j b.q with|some e=>(_:k6 E3 Lb)|none=>_).nts.length <=_;split <;> exact Nat.zero_le _
 |less e=>show(if _ then(_:k6 E3 Lb) else _).nts.length <=_;split;exact Nat.zero_le _;exact key _ _
 |ae0 e=>show(if _ then(_:k6 E3 Lb) else _).nts.length <=_;split <;> exact Nat.zero_le _
 |K1 e=>show(if _ then(_:k6 E3 Lb) else _).nts.length <=_;split <;> exact Nat.zero_le _
 |run e=>exact key _ _
 |unl e=>exact key _ _
 |R6 e=>exact key _ _
 |n5 e=>exact key _ _
 |W2 e=>exact key _ _
 |_=>exact Nat.zero_le _
theorem Dy0 {i k:Nat} {l:List Nte}:(tell i k l).length=l.length:=by unfold tell;simp
theorem ay1 {p:W4} (hl:∀i,(p.bo i).length <=200):∀q,(S0 p).Reach q->q.nts.length <=200*q.outs.length:=by
 refine Sys.ind (Y:=S0 p) (fun q=>q.nts.length <=200*q.outs.length) (Nat.zero_le _) (fun q h _=>?_) (fun q i l h _ hf _=>?_)
 ·show(q.nts++tell _ _ (P6 p.n (p.bo q.ft.length) 0 (fun _=>none) q.s []).nts).length <=200*(q.outs ++ [_]).length;rw[List.length_append,List.length_append,Dy0];obtain⟨l,h1,h2⟩:=jf0 p.n (p.bo q.ft.length) 0 (fun _=>none) q.s [];rw[h1,List.nil_append];have:=hl q.ft.length;simp only[List.length_singleton];omega
 ·unfold Sys.V4;rw[hf];show(q.nts++tell _ _ (A4 p.n (p.bo i) i l q.s).nts).length <=200*(q.outs ++ [_]).length;rw[List.length_append,List.length_append,Dy0];have h1:=Ye0 p.n (p.bo i) i l q.s;have:=hl i;simp only[List.length_singleton];omega
def gm0 (n:Nat) (bk:Nat->Nat) (x:Nat):Nat :=
 if x%9=1 then(if x/9<n then bk (x/9)+1 else 0)
 else if x%9=2 then(if x/9<n then 1 else 0)
 else if x%9=7\/x%9=8 then(if x/9%256=0/\x/9/256<n then 1 else 0)
 else 0
section
variable {n k:Nat}{bk:Nat->Nat}
theorem Te0:gm0 n bk (9*k+1)=if k<n then bk k+1 else 0:=by
 unfold gm0;rw[if_pos (by omega),show(9*k+1)/9=k by omega]
theorem Tf0:gm0 n bk (9*k+2)=if k<n then 1 else 0:=by
 unfold gm0;rw[if_neg (by omega),if_pos (by omega),show(9*k+2)/9=k by omega]
theorem yo0 {d:Nat} (hd:d=7\/d=8):gm0 n bk (9*k+d)=if k%256=0/\k/256<n then 1 else 0:=by
 unfold gm0;rw[if_neg (by omega),if_neg (by omega),if_pos (by omega),show(9*k+d)/9=k by omega]
theorem Dz0 {d:Nat} (hd:d=0\/d=3\/d=4\/d=5\/d=6):gm0 n bk (9*k+d)=0:=by
 unfold gm0;rw[if_neg (by omega),if_neg (by omega),if_neg (by omega)]
end
def fvT (b1 b2:Nat->Nat) (k:Nat):Value:=.func (.func 72) #[] #[.pointer (some ⟨b1 k,0,none⟩),.pointer (some ⟨b2 k,0,none⟩)]
theorem Lm0 {m x y:Nat} {b1 b2:Nat->Nat}:(List.range (m+1)).map (fvT (o3 b1 m x) (o3 b2 m y))=(List.range m).map (fvT b1 b2) ++ [.func (.func 72) #[] #[.pointer (some ⟨x,0,none⟩),.pointer (some ⟨y,0,none⟩)]]:=by
 rw[List.range_succ,List.map_append];congr 1
 ·apply List.map_congr_left;intro i hi;have:i≠m:=by have:i<m:=(by simpa using hi);omega
  unfold fvT;rw[Z0 this,Z0 this]
 ·simp[fvT,Y0]
structure dc0 (w:World) (m tb:Nat) (bo:Nat->List SOp) (oa:Nat->Option Addr) (oc b1 b2:Nat->Nat):Prop where
 blk:∀i,i<m->K0 w (b1 i) #[.slice (oa i) (bo i).length (oc i)] 86/\K0 w (b2 i) #[.pointer (some ⟨tb,0,none⟩)] 23
section
variable {w w':World}{m tb:Nat}{bo:Nat->List SOp}{oa:Nat->Option Addr}{oc b1 b2:Nat->Nat}
theorem dc0.j0 (h:dc0 w m tb bo oa oc b1 b2) (hb:Below w.heap.size w w'):dc0 w' m tb bo oa oc b1 b2:=⟨fun i hi=>⟨(h.blk i hi).1.j0 hb,(h.blk i hi).2.j0 hb⟩⟩
theorem dc0.mod {B:Nat} {TS:List TypeId} (h:dc0 w m tb bo oa oc b1 b2) (hm:N4 w w' B TS) (hT:(TS.contains 86 ||TS.contains 23)=false):dc0 w' m tb bo oa oc b1 b2:=by
 simp only[Bool.or_eq_false_iff]at hT;exact⟨fun i hi=>⟨(h.blk i hi).1.mod hm hT.1,(h.blk i hi).2.mod hm hT.2⟩⟩
theorem dc0.snoc {x y:Nat} (h:dc0 w m tb bo oa oc b1 b2) (hx:K0 w x #[.slice (oa m) (bo m).length (oc m)] 86) (hy:K0 w y #[.pointer (some ⟨tb,0,none⟩)] 23):dc0 w (m+1) tb bo oa oc (o3 b1 m x) (o3 b2 m y):=by
 have key:∀i,i<m+1->i≠m->i<m:=fun i hi hn=>by omega
 refine⟨fun i hi=>?_⟩;by_cases hn:i=m
 ·subst hn;rw[Y0,Y0];exact⟨hx,hy⟩
 ·rw[Z0 hn,Z0 hn];exact h.blk i (key i hi hn)
end
abbrev pT (p:W4) (sc:Nat->Int) (sn:Nat):E3:=((S0 p).pn sc sn).s
structure o7 (p:W4) (sc:Nat->Int) (sn B:Nat) (w:World) (R:Rn) (m:Gm) (r:o6):Prop where
 mem:W3 p m w (pT p sc sn) r
 run:ll0 (S0 p) sc sn B R w
 roR:∀b,p.RO b->b<p.B\/∃cs T,K0 p.wI b cs T/\T≠45
 ok:A5 p
section
variable {p:W4}{sc:Nat->Int}{sn B:Nat}{w w':World}{R:Rn}{m:Gm}{r:o6}
theorem o7.j0 (h:o7 p sc sn B w R m r) (hb:Below w.heap.size w w'):o7 p sc sn B w' R m r :=
 ⟨h.mem.congr fun b hF=>hb.block b (h.mem.vis h.ok hF).1,h.run.j0 hb,h.roR,h.ok⟩
theorem o7.down {B':Nat} (h:o7 p sc sn B w R m r) (hB:B' <=B):o7 p sc sn B' w R m r:=⟨h.mem,h.run.down hB,h.roR,h.ok⟩
theorem o7.off (h:o7 p sc sn B w R m r) {b:Nat} {cs:Array Value} (hB:K0 w b cs 45) (hb:p.B <=b) {c:Nat} (hc:SF p m (pT p sc sn) r c):c≠b:=by
 rcases hc with⟨j,hj,rfl|rfl|rfl|⟨i,hi,ha,rfl⟩⟩|⟨e,hl,rfl|rfl|rfl|rfl⟩|hc
 ·exact K0.ne (h.mem.lk j hj) hB (by decide)
 ·exact K0.ne (h.mem.cl j hj) hB (by decide)
 ·obtain⟨cur,hc,_⟩:=(h.mem.bk j hj).out.row (by simp);exact K0.ne hc hB (by decide)
 ·obtain⟨cur,hc,_⟩:=((h.mem.bk j hj).inn i hi).row ha;exact K0.ne hc hB (by decide)
 ·exact K0.ne (h.mem.en e hl).hE hB (by decide)
 ·exact K0.ne (h.mem.en e hl).hM hB (by decide)
 ·exact K0.ne (h.mem.en e hl).hL hB (by decide)
 ·obtain⟨sa,hC⟩:=(h.mem.en e hl).hC;exact K0.ne hC hB (by decide)
 ·rcases h.roR c hc with z|⟨ds,T,hD,hT⟩
  ·omega
  ·exact K0.ne ((h.mem.ro c hc).trans hD) hB hT
theorem o7.j6 (h:o7 p sc sn B w R m r) {b:Nat} (hg:w.grownBy w' (some b)) (hn:(b<B/\p.B <=b)/\∃cs,K0 w b cs 45):o7 p sc sn B w' R m r:=by
 obtain⟨⟨J1,hpb⟩,cs,hB⟩:=hn;exact⟨h.mem.congr fun c hc=>hg.block c (h.mem.vis h.ok hc).1 fun e=>h.off hB hpb hc (by cases e;rfl),h.run.j6 hg fun z=>by have:=h.run.fp b z;omega,h.roR,h.ok⟩
end
theorem Tg0 {w:World} {a:Addr} {v:Value} (h:w.cell? a=some v):w.heap[a.block]? ≠some nothing:=by
 unfold World.cell? at h;intro e;rw[e]at h;simp[nothing]at h
set_option maxHeartbeats 1000000 in
theorem W3.new {p:W4} {w:World} {bk:Nat->Nat} (hn:p.n <=64) (hL:TLk w p.B p.obj p.rw p.ls p.n) (hQ:TCl w p.B p.wb (oW p.obj 1) p.cl bk p.n) (hw:p.wI=w):W3 p (gm0 p.n bk) w jm0 ⟨fun _=>⟨#[]⟩⟩:=by
 have hva:∀j,j<p.n->va (gm0 p.n bk) j 0=bk j/\vc (gm0 p.n bk) j 0=1:=fun j hj=>by
  unfold va vc;rw[Te0,Tf0,if_pos (show j+64*0<p.n by omega),if_pos (show j+64*0<p.n by omega)];exact⟨rfl,rfl⟩
 have hia:∀j,j<p.n->iaG (gm0 p.n bk) j 0 0=none/\icG (gm0 p.n bk) j 0 0=0:=fun j hj=>by
  unfold iaG icG;rw[yo0 (.inl rfl),yo0 (.inr rfl),if_pos ⟨by omega,by omega⟩];exact⟨rfl,rfl⟩
 refine⟨fun j hj=>(hL.all j hj).2.2.2,fun j hj=>?_,fun j hj=>?_,fun e he=>absurd he (Nat.not_lt_zero _),fun e e' he=>absurd he (Nat.not_lt_zero _),fun e j he=>absurd he (Nat.not_lt_zero _),fun j hj=>?_,fun j i hj hi=>?_,fun e _=>?_,fun j v hj hv=>?_,fun b _=>by rw[hw]⟩
 ·have h1:=(hQ.all j hj).2.2.1;have h2:=hva j hj;unfold clC;show K0 w (p.cl j) #[_,_,_,.slice (some ⟨va (gm0 p.n bk) j 0,0,none⟩) 1 (vc (gm0 p.n bk) j 0),_,_] _;rw[h2.1,h2.2];exact h1
 ·have h1:=hQ.all j hj;show Bk w p.B 1 (some ⟨va (gm0 p.n bk) j 0,0,none⟩) (vc (gm0 p.n bk) j 0) (at_ _ 1 []) (iaG (gm0 p.n bk) j 0) (icG (gm0 p.n bk) j 0);rw[(hva j hj).1,(hva j hj).2];refine⟨?_,fun i hi=>?_⟩
  ·have e1:lst (fun i=>.slice (iaG (gm0 p.n bk) j 0 i) (at_ (fun _=>(⟨#[]⟩:ByteArray)) 1 [] i).length (icG (gm0 p.n bk) j 0 i)) 1=[.slice none 0 0]:=by
    show [Value.slice (iaG (gm0 p.n bk) j 0 0) 0 (icG (gm0 p.n bk) j 0 0)]=_;rw[(hia j hj).1,(hia j hj).2]
   rw[e1];exact Own.Bm0 (s:=1) (n:=1) h1.2.2.2 rfl h1.2.1 (Nat.le_refl _) (by decide)
  ·obtain rfl:i=0:=by omega
   rw[(hia j hj).1,(hia j hj).2];exact Own.nil _ _ _ _
 ·show gm0 p.n bk (9*(j+64*0)+1)≠0/\gm0 p.n bk (9*(j+64*0)+2)≠0;rw[Te0,Tf0,if_pos (show j+64*0<p.n by omega),if_pos (show j+64*0<p.n by omega)];exact⟨Nat.succ_ne_zero _,by decide⟩
 ·have hi:i<1:=hi;obtain rfl:i=0:=by omega
  show gm0 p.n bk (9*((j+64*0)*256+0)+7)≠0/\gm0 p.n bk (9*((j+64*0)*256+0)+8)≠0;rw[yo0 (.inl rfl),yo0 (.inr rfl),if_pos ⟨by omega,by omega⟩];exact⟨by omega,by omega⟩
 ·exact⟨Dz0 (d:=0) (.inl rfl),Dz0 (.inr (.inl rfl)),Dz0 (.inr (.inr (.inl rfl))),Dz0 (.inr (.inr (.inr (.inl rfl)))),Dz0 (.inr (.inr (.inr (.inr rfl))))⟩
 ·have hv:0<v:=hv;rw[Te0,Tf0,if_neg (by omega),if_neg (by omega)];refine⟨rfl,rfl,fun i hi=>?_⟩;rw[yo0 (.inl rfl),yo0 (.inr rfl),if_neg (fun h=>by omega)];exact⟨rfl,rfl⟩
set_option maxHeartbeats 1000000 in
theorem Gv0 {lb:Nat} {pl:Nat->C7} {n m sn lc scp wb tb:Nat} {obj:Int} {bo:Nat->List SOp} {sc:Nat->Int} {ba l sa:Option Addr} {oa:Nat->Option Addr} {oc b1 b2 rw_ ls cl bk:Nat->Nat} {w0 w:World} (hBo:cf0 w0 ba m bo oa oc) (hz:∀i,m <=i->bo i=[]) (hks:∀i o,o∈bo i->o.key.size <=1000000000000) (hSc:tm0 w0 sa sn scp sc) (hF:Yd0 n m bo sn) (hb:Below w0.heap.size w0 w)
  (hl:Own w w0.heap.size 72 1 l m lc ((List.range m).map (fvT b1 b2))) (hW:K0 w wb #[.bool false] 99) (hT:K0 w tb (arr 131 (ak0 wb obj n rw_ cl n n)) 92) (hL:TLk w w0.heap.size obj rw_ ls n) (hQ:TCl w w0.heap.size wb (oW obj 1) cl bk n) (hx:dc0 w m tb bo oa oc b1 b2) :
  @C prog (j9 lb pl) 41 #[.slice l m lc,.slice sa sn scp] w fun v w'=>∃(p:W4) (R:Rn) (mF:Gm) (r:o6),v= .tuple #[Ps0 R,.int .i64 0]/\(p.m=m/\p.bo=bo/\p.n=n/\p.obj=obj/\p.tb=tb/\p.B=w0.heap.size)/\A5 p/\o7 p sc sn w.heap.size w' R mF r /\
   Below w0.heap.size w0 w'/\(w.heap.size <=w'.heap.size)/\∀(b:Nat) (cs:Array Value),w0.heap.size <=b->K0 w b cs 45->K0 w' b cs 45:=by
 classical
 let RO:Nat->Prop:=fun b=>b=tb\/b=wb\/(∃j,j<n/\b=rw_ j)\/(∃i,i<m/\(b=b1 i\/b=b2 i))\/∃i,i<m/\0<(bo i).length/\b=ab (oa i)
 let p:W4:=⟨n,m,obj,bo,tb,wb,rw_,ls,cl,RO,w,w0.heap.size,lb,pl⟩
 have hn1:1 <=n/\n <=64:=by have:=hF.n1;omega
 have hop:∀i,i<m->0<(bo i).length->∃v,w0.cell? ⟨ab (oa i),ao (oa i)+0*3+0,none⟩=some v:=fun i hi hl0=>by
  obtain⟨o,ho⟩:∃o,(bo i)[0]? =some o:=⟨_,List.getElem?_eq_getElem hl0⟩
  exact⟨_,(hBo.ops i hi).cell 0 o ho 0 _ rfl⟩
 have zt0:∀i,i<m->0<(bo i).length->ab (oa i)<w0.heap.size:=fun i hi hl0=>by
  obtain⟨v,hv⟩:=hop i hi hl0;exact lk0 hv
 have hRO:∀b,RO b->b<w0.heap.size\/∃cs T,K0 w b cs T/\T≠244/\T≠164/\T≠191/\T≠0/\T≠72/\T≠45:=by
  rintro b (h|h|⟨j,hj,h⟩|⟨i,hi,h|h⟩|⟨i,hi,h0,h⟩)
  ·rw[h];exact .inr ⟨_,_,hT,by decide,by decide,by decide,by decide,by decide,by decide⟩
  ·rw[h];exact .inr ⟨_,_,hW,by decide,by decide,by decide,by decide,by decide,by decide⟩
  ·rw[h];exact .inr ⟨_,_,(hL.all j hj).2.2.1,by decide,by decide,by decide,by decide,by decide,by decide⟩
  ·rw[h];exact .inr ⟨_,_,(hx.blk i hi).1,by decide,by decide,by decide,by decide,by decide,by decide⟩
  ·rw[h];exact .inr ⟨_,_,(hx.blk i hi).2,by decide,by decide,by decide,by decide,by decide,by decide⟩
  ·rw[h];exact .inl (zt0 i hi h0)
 have tg1:∀b,RO b->b<w.heap.size/\w.heap[b]? ≠some nothing:=by
  rintro b (h|h|⟨j,hj,h⟩|⟨i,hi,h|h⟩|⟨i,hi,h0,h⟩)
  ·rw[h];exact Y6 hT (by decide)
  ·rw[h];exact Y6 hW (by decide)
  ·rw[h];exact Y6 (hL.all j hj).2.2.1 (by decide)
  ·rw[h];exact Y6 (hx.blk i hi).1 (by decide)
  ·rw[h];exact Y6 (hx.blk i hi).2 (by decide)
  ·obtain⟨v,hv⟩:=hop i hi h0;have hv':=cj0 hv hb;rw[h];exact⟨lk0 hv',Tg0 hv'⟩
 have hlen:∀i,(bo i).length <=200:=fun i=>by
  rcases Nat.lt_or_ge i m with z|z
  ·exact Nat.le_trans (ri0 (f:=fun i=>(bo i).length) z) hF.sum
  ·rw[hz i z];exact Nat.zero_le _
 have hP:A5 p:=by
  refine⟨hn1,hF.sum,hF.m1,hks,tg1,fun b hr=>?_,fun j hj=>⟨(hL.all j hj).2.1,(hQ.all j hj).1⟩,⟨.inl rfl,hT⟩,⟨.inr (.inl rfl),hW⟩,fun j hj=>⟨.inr (.inr (.inl ⟨j,hj,rfl⟩)),(hL.all j hj).2.2.1⟩⟩;rcases hRO b hr with h|⟨cs,T,hB,h1,h2,h3,_⟩
  ·exact .inl h
  ·exact .inr ⟨cs,T,hB,h1,h2,h3⟩
 have hD:∀i,i<m->Dw0 p i (b1 i) (b2 i) (oa i) (oc i):=fun i hi=>⟨.inr (.inr (.inr (.inl ⟨i,hi,.inl rfl⟩))),.inr (.inr (.inr (.inl ⟨i,hi,.inr rfl⟩))),fun h0=>.inr (.inr (.inr (.inr ⟨i,hi,h0,rfl⟩))),(hx.blk i hi).1,(hx.blk i hi).2,(hBo.ops i hi).j0 hb,hlen i⟩
 have hO:ob0 (S0 p) (fun _=>72) (fun i=>#[.pointer (some ⟨b1 i,0,none⟩),.pointer (some ⟨b2 i,0,none⟩)]) (fvT b1 b2) l sa sn sc:=by
  refine⟨tz0 hP,hF.m1,Nat.le_trans hF.sn1 (by decide),hl.sl,hSc.sl,fun i hi=>.inr ⟨rfl,rfl,_,func72,rfl,rh1⟩,?_,fun base i cb top u F hi _ hs=>?_⟩
  ·have h1:=ay1 (p:=p) hlen _ (.inr ⟨sc,sn,rfl⟩);have h2:=(Sys.qn0 (Y:=S0 p) sc sn).2;have h3:(S0 p).m <=16:=hF.m1;have h4:=hF.sn1;omega
  ·obtain⟨s,r,hE⟩:=SAt.start hs hP hi;exact Lk0 rfl (ge1 (hD i hi) u hE)
 have hM0:W3 p (gm0 n bk) w jm0 ⟨fun _=>⟨#[]⟩⟩:=W3.new hn1.2 hL hQ rfl;have hinv:nu1 p jm0 (gm0 n bk) w (SF p (gm0 n bk) jm0 ⟨fun _=>⟨#[]⟩⟩):=⟨_,rfl,hM0⟩
 generalize hr0:(⟨fun _=>⟨#[]⟩⟩:o6)=r0 at hM0 hinv;generalize Y5:gm0 n bk=m0 at hM0 hinv;have hFT:∀b,SF p m0 jm0 r0 b->b<w0.heap.size/\RO b\/∃cs T,K0 w b cs T/\T≠72/\T≠45:=fun b hb2=>by
  rcases hb2 with⟨j,hj,rfl|rfl|rfl|⟨i,hi,ha,rfl⟩⟩|⟨e,hl,_⟩|h
  ·exact .inr ⟨_,_,hM0.lk j hj,by decide,by decide⟩
  ·exact .inr ⟨_,_,hM0.cl j hj,by decide,by decide⟩
  ·obtain⟨cur,hc,_⟩:=(hM0.bk j hj).out.row (by simp);exact .inr ⟨_,_,hc,by decide,by decide⟩
  ·obtain⟨cur,hc,_⟩:=((hM0.bk j hj).inn i hi).row ha;exact .inr ⟨_,_,hc,by decide,by decide⟩
  ·exact absurd hl (Nat.not_lt_zero _)
  ·rcases hRO b h with z|⟨cs,T,hB,_,_,_,_,h5,h6⟩
   ·exact .inl ⟨z,h⟩
   ·exact .inr ⟨cs,T,hB,h5,h6⟩
 have hlF:0<m->¬SF p m0 jm0 r0 (ab l):=fun hm hh=>by
  obtain⟨cur,hc,hle,_⟩:=hl.row (hl.ga0 hm);rcases hFT _ hh with⟨z,_⟩|⟨cs,T,hB,hT,_⟩
  ·omega
  ·exact K0.ne hB hc hT rfl
 have az1:∀b,b<w0.heap.size->SF p m0 jm0 r0 b->RO b:=fun b J1 hh=>by
  rcases hh with⟨j,hj,rfl|rfl|rfl|⟨i,hi,ha,rfl⟩⟩|⟨e,hl,_⟩|h
  ·have:w0.heap.size <=ls j:=(hL.all j hj).2.1;have J1:ls j<w0.heap.size:=J1;omega
  ·have:w0.heap.size <=cl j:=(hQ.all j hj).1;have J1:cl j<w0.heap.size:=J1;omega
  ·obtain⟨cur,hc,hle,_⟩:=(hM0.bk j hj).out.row (by simp);have hle:w0.heap.size <=va m0 j (jm0.st j).M3:=hle;omega
  ·obtain⟨cur,hc,hle,_⟩:=((hM0.bk j hj).inn i hi).row ha;have hle:w0.heap.size <=ab (iaG m0 j (jm0.st j).M3 i):=hle;omega
  ·exact absurd hl (Nat.not_lt_zero _)
  ·exact h
 have hsF:0<sn->¬SF p m0 jm0 r0 (ab sa)\/∀s m w' F',(S0 p).Inv s m w' F'->w'.heap[ab sa]? =w.heap[ab sa]?:=fun h0=>by
  by_cases hr:RO (ab sa)
  ·refine .inr fun s m w' F' hI=>?_;obtain⟨r,_,hr'⟩:∃r,F'=SF p m s r/\W3 p m w' s r:=hI;exact hr'.ro _ hr
  ·exact .inl fun hh=>hr (az1 _ (lk0 (hSc.cell 0 h0)) hh)
 have key:=Wl0 (Y:=S0 p) (m0:=m0) (lc:=lc) hO hinv (fun j hj=>by
   have hj:j<m:=hj;rw[hl.off,Nat.zero_add,Nat.mul_one];exact hl.cell (by simp[hj])) hlF (hSc.j0 hb) hsF
 refine @Calls.mono _ (j9 lb pl) _ _ _ _ _ key fun e w' he=>?_;cases e with
 |panicked ch=>exact he.elim
 |outgrown=>exact he.elim
 |returned v=>
  obtain⟨R,rfl,hX,⟨m',F',hI,hdR⟩,hos,gl0,om1,N2,cx0⟩:=he;obtain⟨r,rfl,hR'⟩:∃r,F'=SF p m' (pT p sc sn) r/\W3 p m' w' (pT p sc sn) r:=hI;have K3:∀(b:Nat) (cs:Array Value),w0.heap.size <=b->K0 w b cs 45->K0 w' b cs 45:=fun b cs hlo hB=>by
   refine(cx0 b (P3 hB).lt fun hF2=>?_).trans hB;rcases hFT b hF2 with⟨z,_⟩|⟨ds,T,hD,_,h2⟩
   ·omega
   ·exact K0.ne hD hB h2 rfl
  refine⟨p,R,m',r,rfl,⟨rfl,rfl,rfl,rfl,rfl,rfl⟩,hP,⟨hR',hX,fun b hr=>?_,hP⟩,hb.trans ⟨hos,om1,gl0,N2,fun k hk=>?_⟩,N2,K3⟩
  ·rcases hRO b hr with z|⟨cs,T,hB,_,_,_,_,_,h6⟩
   ·exact .inl z
   ·exact .inr ⟨cs,T,hB,h6⟩
  by_cases hkF:SF p m0 jm0 r0 k
  ·exact hR'.ro k (az1 k hk hkF)
  ·exact cx0 k (Nat.lt_of_lt_of_le hk hb.size) hkF
section
variable [Ctx prog]
end
section
theorem Yf0:prog.built 99 []=some #[.bool false]:=by kernel_rfl
end
section
variable [Ctx prog]
theorem ba1 (x:Int) (w0:World):C prog 15 #[.int .i64 x] w0 fun v w=>v= .int .i64 x/\w=w0:=by
 refine C.enter (n:=4) func15 rfl rfl ?_;refine U42 ?_;refine U309 ?_;exact U29
theorem Yg0 (tb k oc:Nat) (oa:Option Addr) (w0:World):C prog 40 #[.pointer (some ⟨tb,0,none⟩),.slice oa k oc] w0 fun v w=>∃x y,v= .func (.func 72) #[] #[.pointer (some ⟨x,0,none⟩),.pointer (some ⟨y,0,none⟩)]/\K0 w x #[.slice oa k oc] 86/\K0 w y #[.pointer (some ⟨tb,0,none⟩)] 23/\Below w0.heap.size w0 w:=by
 refine C.enter (n:=6) func40 rfl rfl ?_;refine U1 ?_;intro hb;refine L.box (cs:=#[.p tb]) rfl rfl (fun w b2 F2=>?_);refine U15 ?_;intro lt2 hb;have A2:=F2.blk;refine L.box (cs:=#[.slice oa k oc]) rfl rfl (fun w b3 F3=>?_);refine U133 ?_;intro lt3 hb;have A2:=A2.j0 F3.below;have Z7:=F3.blk;refine U19 ?_;refine U0 ?_;refine L.va (u5 (l:=[.tmp 3,.tmp 2]) (vs:=[.pointer (some ⟨b3,0,none⟩),.pointer (some ⟨b2,0,none⟩)]) rfl) ?_;refine L.va (Ms0 rfl) ?_;refine U3 ?_;refine U16 ?_;exact⟨b3,b2,rfl,Z7,A2,hb⟩
theorem Ea0 (w0:World):C prog 13 #[] w0 fun v w=>∃wb,v= .pointer (some ⟨wb,0,none⟩)/\w0.heap.size <=wb/\K0 w wb #[.bool false] 99/\Below w0.heap.size w0 w:=by
 refine C.enter (n:=3) func13 rfl rfl ?_;refine U1 ?_;intro hb;refine U41 ?_;refine L.va (G2 (parts:=[]) rfl Yf0) ?_;refine L.box (cs:=#[.bool false]) rfl rfl (fun w b2 F2=>?_);refine U15 ?_;intro lt2 hb;have A2:=F2.blk;refine U101 ?_;exact⟨b2,rfl,lt2,A2,hb⟩
set_option maxHeartbeats 1000000 in
theorem gf1 {n obj:Int} {m bc sn scp:Nat} {bo:Nat->List SOp} {ba sa:Option Addr} {oa:Nat->Option Addr} {oc:Nat->Nat} (w0:World) (hm:m <=1000000000000) (hsn:sn <=9223372036854775807) (hBo:cf0 w0 ba m bo oa oc) :
  C prog 18 #[.agg #[.int .i64 obj,.int .i64 n,.slice ba m bc,.slice sa sn scp]] w0 fun v w=>∃b,v= .bool b/\(b=true->Yd0 n m bo sn/\sn <=2000)/\Below w0.heap.size w0 w:=by
 refine C.enter (n:=44) func18 rfl rfl ?_;have hb:Below w0.heap.size w0 w0:=Below.refl _ _;have hlen:=hBo.len;refine U0 ?_;refine L.box (cs:=#[.int .i64 obj,.int .i64 n,.slice ba m bc,.slice sa sn scp]) rfl rfl (fun w b1 F1=>?_);refine U246 ?_;intro lt1 hb;have hBo:=hBo.j0 F1.below;have N5:=F1.blk;refine U7 ?_;refine U42 ?_;refine U6 ?_;refine U53 ?_;refine W.loop (fun k e w=>∃(i:Nat),∃(x:Int),k=m-i/\e 1= .pointer (some ⟨b1,0,none⟩)/\e 3= .int .i64 x/\e 4= .int .i64 (i:Nat)/\i <=m/\(i <=16->x=(Y8 (fun j=>(bo j).length) i:Nat))/\cf0 w ba m bo oa oc/\K0 w b1 #[.int .i64 obj,.int .i64 n,.slice ba m bc,.slice sa sn scp] 39/\Below w0.heap.size w0 w) _ ⟨0,0,rfl,rfl,rfl,rfl,Nat.zero_le _,(fun _=>rfl),hBo,N5,hb⟩ ?_;rintro k e w ⟨i,x,hk,s1,s3,s4,hi,hx,hBo,N5,hb⟩;rw[P0 s1,P0 s3,P0 s4];clear s1 s3 s4;refine U14 ?_;refine U165 ?_;refine L.va (M6 rfl underlying36 rfl) ?_;refine U61 ?_;refine W.w6 rfl (fun h9=>?_) (fun h9=>?_)
 ·have J1:i<m:=by omega
  have hle:=hlen i J1;refine U83 ?_;refine U68 ?_;refine U165 ?_;refine U471 ?_;refine L.va (A0 (v:=.slice (oa i) (bo i).length (oc i)) rfl underlying86 rfl ((hBo).row i J1)) ?_;refine L.va (M6 rfl underlying86 rfl) ?_;refine L.va (gu0 (κ:=.i64) (m:=x) (k:=((bo i).length:Int)) rfl rfl) ?_;refine L.va (gt0 rfl) ?_;refine L.nil ?_;refine U74 ?_;exact⟨_,by omega,⟨i+1,_,rfl,rfl,rfl,rfl,(by omega),(Ll0 hlen J1 hx),hBo,N5,hb⟩⟩
 ·have him:i=m:=by omega
  refine W.exit ?_;refine U21 ?_;refine L.va (B0 rfl underlying39 rfl sz3 (by decide)) ?_;refine L.va (A0 rfl underlying3 rfl (N5.q0 1 (v:=.int .i64 n) rfl)) ?_;refine L.va (Hp0 rfl rfl) ?_;refine L.va (bg0 rfl) ?_;refine L.ns0 4 [23,24,25,26,27] 27 (.bool (decide ((1:Int) <=n/\n <=(64:Int)))) (tj:=23) rfl (fun gg1=>?_) (fun gg1=>?_) (fun f=>?_)
  ·refine L.on rfl ?_;refine L.va (B0 rfl underlying39 rfl sz3 (by decide)) ?_;refine L.on rfl ?_;refine L.va (A0 rfl underlying3 rfl (N5.q0 1 (v:=.int .i64 n) rfl)) ?_;refine U335 ?_;refine⟨rfl,congrArg Value.bool (by first|exact wa0 gg1|rfl|(simp_all;done)|(rw[Bool.eq_iff_iff];simp_all;omega)),?_⟩;exact L0.upd rfl (L0.upd rfl (L0.upd rfl (L0.upd rfl (L0.upd rfl (L0.refl _ _)))))
  ·refine L.off rfl ?_;refine U43 ?_;refine U312 ?_;refine⟨rfl,congrArg Value.bool (by first|exact vz0 gg1|rfl|(simp_all;done)|(rw[Bool.eq_iff_iff];simp_all;omega)),?_⟩;exact L0.upd rfl (L0.upd rfl (L0.upd rfl (L0.upd rfl (L0.upd rfl (L0.refl _ _)))))
  refine L.va (bg0 rfl) ?_;refine L.ns0 5 [28,29,30,31,32,33] 33 (.bool (decide (((1:Int) <=n/\n <=(64:Int))/\m <=16))) (tj:=28) rfl (fun gh1=>?_) (fun gh1=>?_) (fun f=>?_)
  ·refine L.on rfl ?_;refine L.va (B0 rfl underlying39 rfl jj1 (by decide)) ?_;refine L.on rfl ?_;refine L.va (A0 rfl underlying36 rfl (N5.q0 2 (v:=.slice ba m bc) rfl)) ?_;refine L.on rfl ?_;refine L.va (M6 rfl underlying36 rfl) ?_;refine U335 ?_;refine⟨rfl,congrArg Value.bool (by first|exact wa0 gh1|rfl|(simp_all;done)|(rw[Bool.eq_iff_iff];simp_all;omega)),?_⟩;exact L0.upd rfl (L0.upd rfl (L0.upd rfl (L0.upd rfl (L0.upd rfl (L0.upd rfl (L0.refl _ _))))))
  ·refine L.off rfl ?_;refine U135 ?_;refine⟨rfl,congrArg Value.bool (by first|exact vz0 gh1|rfl|(simp_all;done)|(rw[Bool.eq_iff_iff];simp_all;omega)),?_⟩;exact L0.upd rfl (L0.upd rfl (L0.upd rfl (L0.upd rfl (L0.upd rfl (L0.upd rfl (L0.refl _ _))))))
  refine L.va (bg0 rfl) ?_;refine L.ns0 3 [34,35,36,37] 37 (.bool (decide ((((1:Int) <=n/\n <=(64:Int))/\m <=16)/\x <=(200:Int)))) (tj:=34) rfl (fun gi1=>?_) (fun gi1=>?_) (fun f=>?_)
  ·refine L.on rfl ?_;refine U80 ?_;refine U450 ?_;refine⟨rfl,congrArg Value.bool (by first|exact wa0 gi1|rfl|(simp_all;done)|(rw[Bool.eq_iff_iff];simp_all;omega)),?_⟩;exact L0.upd rfl (L0.upd rfl (L0.upd rfl (L0.upd rfl (L0.refl _ _))))
  ·refine L.off rfl ?_;refine U448 ?_;refine⟨rfl,congrArg Value.bool (by first|exact vz0 gi1|rfl|(simp_all;done)|(rw[Bool.eq_iff_iff];simp_all;omega)),?_⟩;exact L0.upd rfl (L0.upd rfl (L0.upd rfl (L0.upd rfl (L0.refl _ _))))
  refine L.va (bg0 rfl) ?_;refine L.ns0 5 [38,39,40,41,42,43] 43 (.bool (decide (((((1:Int) <=n/\n <=(64:Int))/\m <=16)/\x <=(200:Int))/\sn <=2000))) (tj:=38) rfl (fun gj1=>?_) (fun gj1=>?_) (fun f=>?_)
  ·refine L.on rfl ?_;refine L.va (B0 rfl underlying39 rfl Bw0 (by decide)) ?_;refine L.on rfl ?_;refine L.va (A0 rfl underlying37 rfl (N5.q0 3 (v:=.slice sa sn scp) rfl)) ?_;refine L.on rfl ?_;refine L.va (M6 rfl underlying37 rfl) ?_;refine U335 ?_;refine⟨rfl,congrArg Value.bool (by first|exact wa0 gj1|rfl|(simp_all;done)|(rw[Bool.eq_iff_iff];simp_all;omega)),?_⟩;exact L0.upd rfl (L0.upd rfl (L0.upd rfl (L0.upd rfl (L0.upd rfl (L0.upd rfl (L0.refl _ _))))))
  ·refine L.off rfl ?_;refine U135 ?_;refine⟨rfl,congrArg Value.bool (by first|exact vz0 gj1|rfl|(simp_all;done)|(rw[Bool.eq_iff_iff];simp_all;omega)),?_⟩;exact L0.upd rfl (L0.upd rfl (L0.upd rfl (L0.upd rfl (L0.upd rfl (L0.upd rfl (L0.refl _ _))))))
  refine U7 ?_;refine U16 ?_;refine⟨_,rfl,fun h=>?_,hb⟩;obtain⟨⟨⟨g1,g2⟩,g3⟩,g4⟩:=of_decide_eq_true h;subst him;have hs:=hx g2;exact⟨⟨g1,g2,by omega,Nat.le_trans g4 (by decide)⟩,g4⟩
end
section
set_option maxHeartbeats 1000000 in
theorem Th0 {lb:Nat} {pl:Nat->C7} {obj:Int} {n m bc sn scp:Nat} {bo:Nat->List SOp} {sc:Nat->Int} {ba sa:Option Addr} {oa:Nat->Option Addr} {oc:Nat->Nat} (w0:World) (hBo:cf0 w0 ba m bo oa oc) (hz:∀i,m <=i->bo i=[]) (hks:∀i o,o∈bo i->o.key.size <=1000000000000) (hSc:tm0 w0 sa sn scp sc) (hF:Yd0 n m bo sn) :
  @C prog (j9 lb pl) 19 #[.agg #[.int .i64 obj,.int .i64 (n:Int),.slice ba m bc,.slice sa sn scp]] w0 fun v w=>∃(p:W4) (R:Rn) (mF:Gm) (r:o6),v= .tuple #[Ps0 R,.pointer (some ⟨p.tb,0,none⟩),.bool true]/\(p.m=m/\p.bo=bo/\p.n=n/\p.obj=obj/\p.B=w0.heap.size)/\o7 p sc sn w0.heap.size w R mF r/\Below w0.heap.size w0 w:=by
 letI:Ctx prog:=j9 lb pl;refine C.enter (n:=57) func19 rfl rfl ?_;have hb:Below w0.heap.size w0 w0:=Below.refl _ _;have th1:=hF.m1;have hn1:0<n/\n <=64:=by have:=hF.n1;omega
 refine U0 ?_;refine L.box (cs:=#[.int .i64 obj,.int .i64 (n:Int),.slice ba m bc,.slice sa sn scp]) rfl rfl (fun w b1 F1=>?_);refine U246 ?_;intro lt1 hb;have N5:=F1.blk;refine L.alloc (cs:=#[.slice none 0 0,.slice none 0 0,.slice none 0 0,.slice none 0 0,.bool false,.int .i64 0]) Oe0 rfl (fun w b2 F2=>?_);refine U15 ?_;intro lt2 hb;have N5:=N5.j0 F2.below;have A2:=F2.blk;refine U70 ?_;refine W.seq ?_;refine W.fl 10 [0,5] [1,2,3,4,0,5,6,7,8,9] (fun w'=>K0 w' b1 #[.int .i64 obj,.int .i64 (n:Int),.slice ba m bc,.slice sa sn scp] 39) (by kernel_rfl) (by kernel_rfl) (by kernel_rfl) (by kernel_rfl) (by kernel_rfl) (N5.j0 (Below.refl w.heap.size w).drew) ?_;refine U17 ?_;intro V3 hb;have N5:=N5.j0 V3;have A2:=A2.j0 V3;clear V3;generalize w.drew=w at *;refine F.va rfl rfl (fun w' L1=>(B0 rfl underlying39 rfl sz3 (by decide))) ?_;refine F.va rfl rfl (fun w' L1=>(A0 rfl underlying3 rfl (L1.q0 0 (v:=.int .i64 obj) rfl))) ?_;refine F.va rfl rfl (fun w' L1=>(B0 rfl underlying39 rfl sz3 (by decide))) ?_;refine F.va rfl rfl (fun w' L1=>(A0 rfl underlying3 rfl (L1.q0 1 (v:=.int .i64 (n:Int)) rfl))) ?_;refine F.doo rfl rfl ?_;refine L.call (kx0  func13 rfl qn1 rfl) (Ea0 _) ?_;rintro _ w ⟨wb,rfl,hwb,hW,O2⟩;have hwb:=Nat.le_trans hb.size hwb;refine U99 ?_;intro hb N5;have A2:=A2.j0 O2;refine L.nil ⟨rfl,N5,?_⟩;refine F.doo rfl rfl ?_;refine L.call (r6 rfl rfl rfl func12 rfl qm1 rfl) (Xc0 wb obj n hn1.1 hn1.2 _ hW) ?_;rintro _ w ⟨tb,rw_,ls,cl,bk,rfl,htl,hT,hL,hQ,O2⟩;have hL:TLk w w0.heap.size obj rw_ ls n:=⟨fun j hj=>let⟨a,b,c,d⟩:=hL.all j hj;⟨Nat.le_trans hb.size a,Nat.le_trans hb.size b,c,d⟩⟩
 have hQ:TCl w w0.heap.size wb (oW obj 1) cl bk n:=⟨fun j hj=>let⟨a,b,c,d⟩:=hQ.all j hj;⟨Nat.le_trans hb.size a,Nat.le_trans hb.size b,c,d⟩⟩
 refine U99 ?_;intro hb N5;have A2:=A2.j0 O2;have hW:=hW.j0 O2;refine L.nil ⟨rfl,N5,?_⟩;refine U194 ?_;refine U196 ?_;refine U5 ?_;refine U14 ?_;refine L.call (K2 rfl func15 rfl jw1 rfl) (ba1 _ w) ?_;rintro _ w1 ⟨rfl,hw⟩;refine U96 ?_;refine L.va (R5 (r:=false) (by decide) (vy0 (m:=0) (k:=0) rfl rfl)) ?_;refine U36 ?_;refine L.va (c5 rfl rfl underlying23) ?_;refine L.va (A7 rfl) ?_;refine U25 ?_;refine U131 ?_;refine U53 ?_;refine W.loop (fun k e w=>∃(i:Nat),∃(l:Option Addr),∃(lc:Nat),∃(c1:Nat->Nat),∃(c2:Nat->Nat),k=m-i/\e 1= .pointer (some ⟨b1,0,none⟩)/\e 2= .pointer (some ⟨b2,0,none⟩)/\e 5= .p tb/\e 7= .slice l i lc/\e 8= .int .i64 (i:Nat)/\i <=m/\Own w w0.heap.size 72 1 l i lc ((List.range i).map (fvT c1 c2))/\dc0 w i tb bo oa oc c1 c2/\K0 w tb (arr 131 (ak0 wb obj n rw_ cl n n)) 92/\TLk w w0.heap.size obj rw_ ls n/\TCl w w0.heap.size wb (oW obj 1) cl bk n/\K0 w wb #[.bool false] 99/\K0 w b1 #[.int .i64 obj,.int .i64 (n:Int),.slice ba m bc,.slice sa sn scp] 39/\K0 w b2 #[.slice none 0 0,.slice none 0 0,.slice none 0 0,.slice none 0 0,.bool false,.int .i64 0] 45/\Below w0.heap.size w0 w) _ ⟨0,none,0,(fun _=>0),(fun _=>0),rfl,rfl,rfl,rfl,rfl,rfl,Nat.zero_le _,Own.nil _ _ _ _,⟨fun i hi=>absurd hi (Nat.not_lt_zero _)⟩,hT,hL,hQ,hW,N5,A2,hb⟩ ?_;rintro k e w ⟨i,l,lc,c1,c2,hk,s1,s2,s5,s7,s8,hi,hl,hx,hT,hL,hQ,hW,N5,A2,hb⟩;rw[P0 s1,P0 s2,P0 s5,P0 s7,P0 s8];clear s1 s2 s5 s7 s8;refine U14 ?_;refine U165 ?_;refine L.va (M6 rfl underlying36 rfl) ?_;refine U61 ?_;refine W.w6 rfl (fun h32=>?_) (fun h32=>?_)
 ·have J1:i<m:=by omega
  refine U83 ?_;refine U123 ?_;refine L.va (H3 rfl) ?_;refine U165 ?_;refine U471 ?_;refine L.va (A0 (v:=.slice (oa i) (bo i).length (oc i)) rfl underlying86 rfl ((hBo.j0 hb).row i J1)) ?_;refine L.call (P2 rfl rfl func40 rfl qv1 rfl) (Yg0 tb (bo i).length (oc i) (oa i) _) ?_;rintro _ w ⟨x,y,rfl,hbx,hby,O2⟩;have hb:=G0 hb O2;have hl:=hl.j0 O2;have hx:=hx.j0 O2;have hT:=hT.j0 O2;have hL:=hL.j0 O2;have hQ:=hQ.j0 O2;have hW:=hW.j0 O2;have N5:=N5.j0 O2;have A2:=A2.j0 O2;refine L.ct0 (cs:=#[.func (.func 72) #[] #[.pointer (some ⟨x,0,none⟩),.pointer (some ⟨y,0,none⟩)]]) rfl rfl underlying101 jm1 rfl ⟨_,qi1⟩ (by decide) (fun w b43 F43=>?_);have ue1:=F43.lq hb.size;have hb:=G0 hb F43.below;have hl:=hl.j0 F43.below;have hx:=hx.j0 F43.below;have hT:=hT.j0 F43.below;have hL:=hL.j0 F43.below;have hQ:=hQ.j0 F43.below;have hW:=hW.j0 F43.below;have N5:=N5.j0 F43.below;have A2:=A2.j0 F43.below;have hbx:=hbx.j0 F43.below;have hby:=hby.j0 F43.below;have ti1:=F43.blk;refine L.E9 (B:=w0.heap.size) (m:=1) rfl rfl underlying101 qj1 rfl (by decide) hl (fun h=>by cases h) (news:=[.func (.func 72) #[] #[.pointer (some ⟨x,0,none⟩),.pointer (some ⟨y,0,none⟩)]]) rfl (fun ad had j u hj=>by
   cases had;rw[Addr.add_lit]
   match j,hj with
   |0,hj=>cases hj;exact ti1.q0 0 rfl) (fun u hu=>by simp only[List.mem_cons,List.not_mem_nil,or_false]at hu;subst hu;rfl) (by omega) (by omega) hb.size (fun l2 lc2 w2 hO2 hg2 G1 _=>?_)
  have hmo:N4 w w2 w0.heap.size [72]:=N4.app hl hg2 G1 rfl hO2;have hb:=hb.trans G1;have hx:=hx.mod hmo rfl;have hT:=hT.mod hmo rfl;have hL:=hL.mod hmo rfl;have hQ:=hQ.mod hmo rfl;have hW:=hW.mod hmo rfl;have N5:=N5.mod hmo rfl;have A2:=A2.mod hmo rfl;have hbx:=hbx.mod hmo rfl;have hby:=hby.mod hmo rfl;clear hmo hg2 G1 hl
  rename World=>w
  refine U127 ?_;refine U74 ?_;exact⟨_,by omega,⟨i+1,l2,lc2,(o3 c1 i x),(o3 c2 i y),rfl,rfl,rfl,rfl,rfl,rfl,(by omega),(by rw[Lm0];exact hO2),(hx.snoc hbx hby),hT,hL,hQ,hW,N5,A2,hb⟩⟩
 ·obtain rfl:m=i:=by omega
  refine W.exit ?_;refine U323 ?_;refine L.va (B0 rfl underlying39 rfl Bw0 (by decide)) ?_;refine L.va (A0 rfl underlying37 rfl (N5.q0 3 (v:=.slice sa sn scp) rfl)) ?_;refine L.call (P2 rfl rfl func41 rfl qw1 rfl) (Gv0 hBo hz hks hSc hF hb hl hW hT hL hQ hx) ?_;have h2l:=A2.lt;rintro _ w1 ⟨p,R,mF,r1,rfl,⟨pm,pbo,pn,Ti0,ptb,pB⟩,hP,hY,O2,N2,hrn⟩;have A2:=hrn _ _ lt2 A2;have hb:=O2;clear O2 hW hT hL hQ hx hrn hl N5
  rename World=>w
  refine U192 ?_;have Eb0:=hY;have bb1:=A2;have rj0:=hb;refine L.alloc (cs:=#[.slice none 0 0,.slice none 0 0,.slice none 0 0,.slice none 0 0,.bool false,.int .i64 0]) Oe0 rfl (fun w b9 F9=>?_);have lt9:=F9.lq hb.size;have gk1:=F9.ne A2;have C8:=F9.blk;refine L.pa [.slice R.ea R.evs.length R.ec,.slice R.na R.nts.length R.nc,.slice (some ⟨R.eb,0,none⟩) R.m R.m,.slice (some ⟨R.wb,0,none⟩) R.m R.m,.bool R.stuck,.int .i64 (R.used:Int)] lf0 C8 (fun w A1 hg N2=>?_);have hbA:=M4 F9.below F9.below.size hg (by have:=F9.here;omega);have hY:=Eb0.j0 hbA;have A2:=bb1.j0 hbA;have hb:=G0 rj0 hbA;have C8:=A1;clear A1 hg N2 hbA F9 Eb0 bb1 rj0;refine U5 ?_;refine W.seq ?_;refine W.fl 7 [3,5] [0,1,2,3,4,5,6] (fun w'=>K0 w' b9 #[.slice R.ea R.evs.length R.ec,.slice R.na R.nts.length R.nc,.slice (some ⟨R.eb,0,none⟩) R.m R.m,.slice (some ⟨R.wb,0,none⟩) R.m R.m,.bool R.stuck,.int .i64 (R.used:Int)] 45) (by kernel_rfl) (by kernel_rfl) (by kernel_rfl) (by kernel_rfl) (by kernel_rfl) (C8.j0 (Below.refl w.heap.size w).drew) ?_;refine U17 ?_;intro V3 hb;have hY:=hY.j0 V3;have A2:=A2.j0 V3;have C8:=C8.j0 V3;clear V3;generalize w.drew=w at *;refine F.va rfl rfl (fun w' L1=>(D2 (cs:=[.slice R.ea R.evs.length R.ec,.slice R.na R.nts.length R.nc,.slice (some ⟨R.eb,0,none⟩) R.m R.m,.slice (some ⟨R.wb,0,none⟩) R.m R.m,.bool R.stuck,.int .i64 (R.used:Int)]) rfl underlying45 rfl lf0 rfl (L1.T6 rfl))) ?_;refine U62 ?_;refine F.doo rfl rfl ?_;refine L.call (K2 rfl func15 rfl jw1 rfl) (ba1 _ w) ?_;rintro _ w1 ⟨rfl,hw⟩;refine U96 ?_;refine L.nil ⟨rfl,C8,?_⟩;refine F.va rfl rfl (fun w' L1=>(R5 (r:=true) (by decide) (S9 (m:=0) (k:=0) rfl rfl))) ?_;refine F.doo rfl rfl ?_;refine L.pu 0 [.slice R.ea R.evs.length R.ec,.slice R.na R.nts.length R.nc,.slice (some ⟨R.eb,0,none⟩) R.m R.m,.slice (some ⟨R.wb,0,none⟩) R.m R.m,.bool R.stuck,.int .i64 (R.used:Int)] #[.slice R.ea R.evs.length R.ec,.slice R.na R.nts.length R.nc,.slice (some ⟨R.eb,0,none⟩) R.m R.m,.slice (some ⟨R.wb,0,none⟩) R.m R.m,.bool R.stuck,.int .i64 (R.used:Int)] lf0 A2 (fun w A1 hg N2=>?_);have Y5:=N4.ei0 A2 hg;have hb:=M4 hb hb.size hg lt2;have hY:=hY.j6 hg ⟨⟨h2l,by rw[pB];exact lt2⟩,_,A2⟩;have C8:=C8.other hg (Ne.symm gk1);have A2:=A1;clear Y5;refine L.nil ⟨rfl,C8,?_⟩;refine U196 ?_;refine U7 ?_;refine U58 ?_;refine ends.Qs0 (cs:=#[.slice R.ea R.evs.length R.ec,.slice R.na R.nts.length R.nc,.slice (some ⟨R.eb,0,none⟩) R.m R.m,.slice (some ⟨R.wb,0,none⟩) R.m R.m,.bool R.stuck,.int .i64 (R.used:Int)]) (.inr rfl) rfl rfl underlying45 rfl lf0 A2 ?_;exact⟨p,R,mF,r1,by rw[ptb];rfl,⟨pm,pbo,pn,Ti0,pB⟩,hY.down (by omega),hb⟩
end
section
variable {p:W4}{sc:Nat->Int}{sn B:Nat}{w:World}{R:Rn}{m:Gm}{r:o6}
theorem o7.bcl (h:o7 p sc sn B w R m r):BCl w p.wb (oW p.obj 1) p.cl p.n (fun j=>some ⟨va m j ((pT p sc sn).st j).M3,0,none⟩) (fun j=>((pT p sc sn).st j).O0) (fun j=>vc m j ((pT p sc sn).st j).M3) (fun j=>((pT p sc sn).st j).l.length) (fun j=>(((pT p sc sn).st j).made:Nat)):=⟨fun j hj=>h.mem.cl j hj⟩
theorem on1 (hp:A5 p) (sc:Nat->Int) (sn:Nat):TOk p.n p.m p.bo (pT p sc sn) ((S0 p).pn sc sn).ft:=Ad0 hp.n.1 _ (.inr ⟨sc,sn,rfl⟩)
theorem o7.entries [Ctx prog] (h:o7 p sc sn B w R m r):C prog 16 #[.pointer (some ⟨p.tb,0,none⟩)] w fun v w'=>v= .int .i64 (Y8 (fun j=>((pT p sc sn).st j).l.length) p.n:Nat)/\Below w.heap.size w w' :=
 Kx0 p.tb p.wb p.obj (oW p.obj 1) p.n p.rw p.cl _ _ _ _ _ h.ok.n.2 w (h.mem.rob h.ok.hT) h.bcl (h.mem.rob h.ok.hW) fun j _=>Nat.le_trans ((on1 h.ok sc sn).so.ll j) (Nat.le_trans ((on1 h.ok sc sn).so.re0 h.ok) (by decide))
theorem o7.O0 [Ctx prog] (h:o7 p sc sn B w R m r) {i:Nat} (hi:i<p.n):C prog 17 #[.pointer (some ⟨p.tb,0,none⟩),.int .i64 (i:Int)] w fun v w'=>v= .int .i64 (((pT p sc sn).st i).O0:Nat)/\Below w.heap.size w w' :=
 Rz0 p.tb p.wb p.obj (oW p.obj 1) p.n p.rw p.cl _ _ _ _ _ h.ok.n.2 w (h.mem.rob h.ok.hT) h.bcl (h.mem.rob h.ok.hW) i hi
end
def ly0:List SOp:=[⟨1,0,⟨#[97]⟩⟩,⟨2,0,ByteArray.empty⟩,⟨3,0,ByteArray.empty⟩,⟨4,0,ByteArray.empty⟩]
def km0:Nat->Int:=fun _=>0
theorem Yh0 {p:W4} (hn:p.n=1) (hm:p.m=1) (hb:p.bo=fun i=>if i<1 then ly0 else []):((S0 p).pn km0 20).evs.length=15/\((S0 p).pn km0 20).ft[0]? =some (.inr 1)/\((pT p km0 20).st 0).l.length=0/\((pT p km0 20).st 0).O0=1:=by
 obtain⟨n,m,obj,bo,tb,wb,rw_,ls,cl,RO,wI,B,lb,pl⟩:=p;simp only at hn hm hb;subst hn hm hb;exact⟨by kernel_rfl,by kernel_rfl,by kernel_rfl,by kernel_rfl⟩
theorem Ln0 {w:World} {b9 b12:Nat} (h9:K0 w b9 #[.int .i64 1,.int .i64 0,.string ⟨#[97]⟩,.int .i64 2,.int .i64 0,.string ByteArray.empty,.int .i64 3,.int .i64 0,.string ByteArray.empty,.int .i64 4,.int .i64 0,.string ByteArray.empty] 85) (h12:K0 w b12 #[.slice (some ⟨b9,0,none⟩) 4 4] 86) :
  cf0 w (some ⟨b12,0,none⟩) 1 (fun i=>if i<1 then ly0 else []) (fun _=>some ⟨b9,0,none⟩) (fun _=>4):=by
 refine⟨fun _=>rfl,fun i hi=>?_,fun i hi=>?_,fun i hi=>?_⟩
 ·match i,hi with
  |0,_=>exact h12.q0 0 rfl
 ·simp only[if_pos hi];refine⟨fun _=>rfl,fun k o ho j v hv=>?_⟩;have hjl:j<3:=(Array.getElem?_eq_some_iff.1 hv).1;have hkl:k<4:=(List.getElem?_eq_some_iff.1 ho).1;obtain rfl|rfl|rfl|rfl:k=0\/k=1\/k=2\/k=3:=by omega
  all_goals cases ho
  all_goals obtain rfl|rfl|rfl:j=0\/j=1\/j=2:=by omega
  all_goals cases hv
  ·exact h9.q0 0 rfl
  ·exact h9.q0 1 rfl
  ·exact h9.q0 2 rfl
  ·exact h9.q0 3 rfl
  ·exact h9.q0 4 rfl
  ·exact h9.q0 5 rfl
  ·exact h9.q0 6 rfl
  ·exact h9.q0 7 rfl
  ·exact h9.q0 8 rfl
  ·exact h9.q0 9 rfl
  ·exact h9.q0 10 rfl
  ·exact h9.q0 11 rfl
 ·simp only[if_pos hi];decide
theorem Yi0 {w:World} {b:Nat} (h:K0 w b (Array.replicate (20*1) (.int .i64 0)) 3):tm0 w (some ⟨b,0,none⟩) 20 20 km0:=by
 refine⟨fun _=>rfl,(fun h=>by cases h),by decide,fun j hj=>?_⟩;show w.cell? ⟨b,0+j*1,none⟩=_;rw[Nat.zero_add,Nat.mul_one];exact h.q0 j (by rw[Array.getElem?_replicate,if_pos (by omega)];rfl)
theorem Tj0:Yd0 (1:Nat) 1 (fun i=>if i<1 then ly0 else []) 20:=⟨by decide,by decide,by decide,by decide⟩
theorem Yj0:∀i o,o∈(if i<1 then ly0 else [])->o.key.size <=1000000000000:=by
 intro i o ho;split at ho
 ·simp only[ly0,List.mem_cons,List.not_mem_nil,or_false]at ho;rcases ho with rfl|rfl|rfl|rfl <;> decide
 ·cases ho
theorem gl1 (k:Int):prog.built 85 [(0,.int .i64 k)]=some #[.int .i64 k,.int .i64 0,.string ByteArray.empty]:=by kernel_rfl
theorem oo1 (k:Int) (q:ByteArray):prog.built 85 [(0,.int .i64 k),(2,.string q)]=some #[.int .i64 k,.int .i64 0,.string q]:=by kernel_rfl
theorem Yk0 (x0:Int) (x1:Int) (x2:Option Addr) (x3:Nat) (x4:Nat) (x5:Option Addr) (x6:Nat) (x7:Nat):prog.built 39 [(0,.int .i64 x0),(1,.int .i64 x1),(2,.slice x2 x3 x4),(3,.slice x5 x6 x7)]=some #[.int .i64 x0,.int .i64 x1,.slice x2 x3 x4,.slice x5 x6 x7]:=by kernel_rfl
set_option maxHeartbeats 1000000 in
set_option maxRecDepth 20000 in
theorem Tk0 {lb:Nat} {pl:Nat->C7} (w0:World):@C prog (j9 lb pl) 11 #[] w0 fun v w=>v= .bool true/\Below w0.heap.size w0 w:=by
 letI:Ctx prog:=j9 lb pl;refine C.enter (n:=43) func11 rfl rfl ?_;refine U1 ?_;intro hb;refine U7 ?_;refine U0 ?_;refine L.va (G2 (vs:=[(0,.int .i64 1),(2,.string ⟨#[97]⟩)]) rfl (oo1 _ _)) ?_;refine L.va (G2 (vs:=[(0,.int .i64 2)]) rfl (gl1 _)) ?_;refine L.va (G2 (vs:=[(0,.int .i64 3)]) rfl (gl1 _)) ?_;refine L.va (G2 (vs:=[(0,.int .i64 4)]) rfl (gl1 _)) ?_;refine L.Qo0 (vs:=[(0,.agg #[.int .i64 1,.int .i64 0,.string (⟨#[97]⟩)]),(1,.agg #[.int .i64 2,.int .i64 0,.string ByteArray.empty]),(2,.agg #[.int .i64 3,.int .i64 0,.string ByteArray.empty]),(3,.agg #[.int .i64 4,.int .i64 0,.string ByteArray.empty])]) (cs:=#[.int .i64 1,.int .i64 0,.string (⟨#[97]⟩),.int .i64 2,.int .i64 0,.string ByteArray.empty,.int .i64 3,.int .i64 0,.string ByteArray.empty,.int .i64 4,.int .i64 0,.string ByteArray.empty]) rfl underlying86 Vj0 jn1 (by decide) (by kernel_rfl) (fun w b9 F9=>?_);have lt9:=F9.lq hb.size;have hb:=G0 hb F9.below;have C8:=F9.blk;refine U73 ?_;refine L.va (R9 rfl) ?_;refine L.ct0 (cs:=#[.slice (some ⟨b9,0,none⟩) 4 4]) rfl rfl underlying36 ct1 rfl ⟨_,jo1⟩ (by decide) (fun w b12 F12=>?_);have Xb0:=F12.lq hb.size;have hb:=G0 hb F12.below;have C8:=C8.j0 F12.below;have Gd0:=F12.blk;refine L.make (m:=20) rfl rfl underlying37 in3 (z0:=.int .i64 0) rfl (by decide) (by omega) (by omega) (fun w b13 F13=>?_);have uf1:=F13.lq hb.size;have hb:=G0 hb F13.below;have C8:=C8.j0 F13.below;have Gd0:=Gd0.j0 F13.below;have tj1:=F13.blk;refine L.va (G2 (parts:=[(0,.const (.int .i64 1)),(1,.const (.int .i64 1)),(2,.tmp 12),(3,.tmp 13)]) rfl (Yk0 1 1 (some ⟨b12,0,none⟩) 1 1 (some ⟨b13,0,none⟩) 20 20)) ?_;refine L.call (K2 rfl func19 rfl jx1 rfl) (Th0 (n:=1) w (Ln0 C8 Gd0) (fun i hi=>if_neg (by omega)) Yj0 (Yi0 tj1) Tj0) ?_;rintro _ w1 ⟨p,R,mF,r1,rfl,⟨pm,pbo,pn,Ti0,pB⟩,hY,O2⟩;have hb:=G0 hb O2;clear O2
 rename World=>w
 obtain⟨l1,l2,l3,l4⟩:=Yh0 pn pm pbo;have hev:R.evs.length=15:=by rw[hY.run.evs];exact l1
 have hen:R.ends[0]? =some 1:=by rw[hY.run.ends 0 (by show 0<p.m;omega),l2];rfl
 refine U192 ?_;refine L.va (D9 rfl rfl) ?_;have Eb0:=hY;have rj0:=hb;refine L.alloc (cs:=#[.slice none 0 0,.slice none 0 0,.slice none 0 0,.slice none 0 0,.bool false,.int .i64 0]) Oe0 rfl (fun w b2 F2=>?_);have lt2:=F2.lq hb.size;have A2:=F2.blk;refine L.pa [.slice R.ea R.evs.length R.ec,.slice R.na R.nts.length R.nc,.slice (some ⟨R.eb,0,none⟩) R.m R.m,.slice (some ⟨R.wb,0,none⟩) R.m R.m,.bool R.stuck,.int .i64 (R.used:Int)] lf0 A2 (fun w A1 hg N2=>?_);have hbA:=M4 F2.below F2.below.size hg (by have:=F2.here;omega);have hY:=Eb0.j0 hbA;have hb:=G0 rj0 hbA;have A2:=A1;clear A1 hg N2 hbA F2 Eb0 rj0;refine U70 ?_;refine U0 ?_;refine L.va (bg0 rfl) ?_;refine U31 ?_;refine L.va (B0 rfl underlying45 rfl Jx0 (by decide)) ?_;refine L.on rfl ?_;refine L.va (A0 rfl underlying41 rfl (A2.q0 0 (v:=.slice R.ea R.evs.length R.ec) rfl)) ?_;refine L.on rfl ?_;refine L.va (Ew0 (m:=15) (by rw[hev];rfl) rfl underlying41 rfl) ?_;refine L.on rfl ?_;refine L.va (R5 (r:=true) (by decide) (S9 (m:=15) (k:=15) rfl rfl)) ?_;refine L.va (p6 rfl) ?_;refine U31 ?_;refine L.va (B0 rfl underlying45 rfl Bw0 (by decide)) ?_;refine L.on rfl ?_;refine L.va (A0 rfl underlying37 rfl (A2.q0 2 (v:=.slice (some ⟨R.eb,0,none⟩) R.m R.m) rfl)) ?_;refine L.on rfl ?_;refine L.va (S5 (i:=0) rfl rfl underlying37 sz3 (fun _=>rfl) (by have h8:=(List.getElem?_eq_some_iff.1 hen).1;have h9:=hY.run.mem.hw0;omega)) ?_;refine L.on rfl ?_;refine L.va (A0 (v:=.int .i64 1) rfl underlying3 rfl ((show K0 w R.eb _ _ from hY.run.mem.ends).q0 0 (by rw[List.getElem?_toArray,List.getElem?_map,hen];rfl))) ?_;refine L.on rfl ?_;refine U459 ?_;refine U36 ?_;refine L.call (K2 rfl func16 rfl qo1 rfl) hY.entries ?_;rintro _ w ⟨rfl,O2⟩;have hb:=G0 hb O2;have hY:=hY.j0 O2;clear O2;have hs0:Y8 (fun j=>((pT p km0 20).st j).l.length) p.n=0:=by rw[pn,H6];show Y8 _ 0+((pT p km0 20).st 0).l.length=0;rw[l3];rfl
 rw[hs0];refine L.on rfl ?_;refine U452 ?_;refine U36 ?_;refine L.call (P2 rfl rfl func17 rfl qp1 rfl) (hY.O0 (i:=0) (by omega)) ?_;rintro _ w ⟨rfl,O2⟩;have hb:=G0 hb O2;clear O2;rw[l4];refine L.on rfl ?_;refine U459 ?_;exact U144
end Go.Vy.Sc
end
