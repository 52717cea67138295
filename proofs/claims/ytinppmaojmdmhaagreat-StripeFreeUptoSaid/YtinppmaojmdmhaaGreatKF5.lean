/- What the claim leans on, part 5. Laws. -/
import Derived.Test.YtinppmaojmdmhaaGreatKF4
import Derived.ChangeKeysEq
set_option linter.unusedVariables false
set_option maxHeartbeats 4000000
section
namespace Go.Vy.Sc
open Go Go.Conc Go.Yc Go.RowKit Go.Proofs Go.Proofs.YtinppmaojmdmhaaGreat Tryz
open Go.Vc Go.Wg
section
variable[Ctx prog]
def bh0(f:Nat->Nat)(n:Nat):Nat:=((List.range n).map f).sum
section
omit [Ctx prog]
section
variable{f rl cl:Nat->Nat}{n wb i:Nat}{obj:Int}
theorem W8(f:Nat->Nat)(n:Nat):bh0 f (n+1)=bh0 f n+f n:=by
 unfold bh0;rw[List.range_succ,List.map_append,List.sum_append];simp
theorem Dz0{B:Nat}(h:∀j,j<n->f j <=B):bh0 f n <=n*B:=by
 induction n with
 |zero=>exact Nat.zero_le _
 |succ n ih=>
  rw[W8,Nat.succ_mul];have h1:=ih fun j hj=>h j Uo;have h2:=h n (Nat.lt_succ_self _);omega
theorem Kj0{g:Nat->Nat}(h:∀j,j<n->f j=g j):bh0 f n=bh0 g n:=by
 unfold bh0;congr 1;exact List.map_congr_left fun j hj=>h j (List.mem_range.1 hj)
theorem Kk0(hi:i<n):bg0 wb obj n rl cl n n (67+i*1)= .pointer (some ⟨cl i,0,none⟩):=by
 unfold bg0;rw[if_neg Uo,if_neg Uo,if_neg Uo,if_neg Uo,show 67+i*1-67=i by omega,if_pos hi]
theorem mc1(hi:i<n)(hn:n <=64):bg0 wb obj n rl cl n n (3+i*1)= .pointer (some ⟨rl i,0,none⟩):=by
 unfold bg0;rw[if_neg Uo,if_neg Uo,if_neg Uo,if_pos Uo,show 3+i*1-3=i by omega,if_pos hi]
theorem jd0{w:World}{tb o:Nat}{v:Value}(hT:I0 w tb (arr 131 (bg0 wb obj n rl cl n n)) 92)(ho:o<131)(hv:bg0 wb obj n rl cl n n o=v):w.cell? ⟨tb,o,none⟩=some v:=by
 rw[I0.at_ hT ho,hv]
end
structure BCl(w:World)(wb:Nat)(obj:Int)(cl:Nat->Nat)(n:Nat)(sa:Nat->Option Addr)(sn sc ct:Nat->Nat)(md:Nat->Int):Prop where
 all:∀j,j<n->I0 w (cl j) #[.i obj,.i (j:Nat),.p wb,.slice (sa j) (sn j) (sc j),.i (ct j:Nat),.i (md j)] 164
theorem BCl.j0{w w':World}{wb:Nat}{obj:Int}{cl:Nat->Nat}{n:Nat}{sa:Nat->Option Addr}{sn sc ct:Nat->Nat}{md:Nat->Int}(h:BCl w wb obj cl n sa sn sc ct md)(hb:Below w.heap.size w w'):BCl w' wb obj cl n sa sn sc ct md:=⟨fun j hj=>(h.all j hj).j0 hb⟩
end
theorem Pq0(tb wb:Nat)(obj Xe0:Int)(n:Nat)(rl cl:Nat->Nat)(sa:Nat->Option Addr)(sn sc ct:Nat->Nat)(md:Nat->Int)(hn:n <=64)(w0:World)(hT:I0 w0 tb (arr 131 (bg0 wb obj n rl cl n n)) 92)(hC:BCl w0 wb Xe0 cl n sa sn sc ct md)(hW:I0 w0 wb #[.bool false] 99)(hct:∀j,j<n->ct j <=1000000):C prog 16 #[.p tb] w0 fun v w=>v= .i (bh0 ct n:Nat)/\Below w0.heap.size w0 w:=by
 refine C.enter (n:=26) func16 rfl rfl<|U2 ?_;intro hb;refine U17 ?_;refine U315 ?_;refine U34 ?_;refine U17 ?_;refine U0 ?_;refine U540 ?_;refine L.va (q0 (v:=.i (n:Int)) rfl underlying3 rfl (jd0 (o:=2) hT Uo rfl))<|U22 ?_;refine W.loop (fun k e w=>∃(i:Nat),k=n-i/\e 0= .p tb/\e 3= .i (bh0 ct i:Nat)/\e 10= .i (n:Int)/\e 11= .i (i:Nat)/\i <=n/\Below w0.heap.size w0 w/\I0 w tb (arr 131 (bg0 wb obj n rl cl n n)) 92/\BCl w wb Xe0 cl n sa sn sc ct md/\I0 w wb #[.bool false] 99) _ ⟨0,rfl,rfl,rfl,rfl,rfl,Nat.zero_le _,hb,hT,hC,hW⟩ ?_;rintro k e w ⟨i,hk,s0,s3,s10,s11,hi,hb,hT,hC,hW⟩;rw[L0 s0,L0 s3,L0 s10,L0 s11];clear s0 s3 s10 s11;refine U12 ?_;refine W.m6 rfl (fun h12=>?_) (fun h12=>?_)
 ·have O1:i<n:=by omega
  have hle:=Dz0 (f:=ct) (n:=i) fun j hj=>hct j Uo;have bw0:=hct i O1;have Ob0:((bh0 ct (i+1):Nat):Int)=((bh0 ct i:Nat):Int)+((ct i:Nat):Int):=by rw[W8];omega
  refine U39 ?_;refine U92 ?_;refine U136 ?_;refine U18 ?_;refine U504 ?_;refine U382 ?_;rintro _ w ⟨rfl,A1⟩;have hb:=B0 hb A1;have hT:=hT.j0 A1;have hC:=hC.j0 A1;have hW:=hW.j0 A1;clear A1;refine L.va (Gl0 rfl underlying97 rfl underlying3 rfl rfl)<|L.va (Ob0▸fs0 (m:=((bh0 ct i:Nat):Int)) (k:=((ct i:Nat):Int)) rfl rfl Uo)<|L.va (fd0 rfl)<|U235 ?_;exact⟨_,by omega,⟨i+1,rfl,rfl,rfl,rfl,rfl,O1,hb,hT,hC,hW⟩⟩
 ·refine W.exit<|U143 ?_;refine U92 ?_;refine U15 ?_;have hin:i=n:=by omega
  subst hin;exact⟨rfl,hb⟩
theorem Xf0(tb wb:Nat)(obj Xe0:Int)(n:Nat)(rl cl:Nat->Nat)(sa:Nat->Option Addr)(sn sc ct:Nat->Nat)(md:Nat->Int)(hn:n <=64)(w0:World)(hT:I0 w0 tb (arr 131 (bg0 wb obj n rl cl n n)) 92)(hC:BCl w0 wb Xe0 cl n sa sn sc ct md)(hW:I0 w0 wb #[.bool false] 99)(i:Nat)(O1:i<n):C prog 17 #[.p tb,.i (i:Int)] w0 fun v w=>v= .i (sn i:Nat)/\Below w0.heap.size w0 w:=by
 refine C.enter (n:=28) func17 rfl rfl<|U2 ?_;intro hb;refine U17 ?_;refine U315 ?_;refine U36 ?_;refine U26 ?_;refine L.va (O8 (r:=false) (decide_eq_false Uo) (jo0 rfl rfl))<|L.va (H7 rfl)<|U36 ?_;refine U26 ?_;refine U125 ?_;refine U270 ?_;refine L.va (A0 rfl underlying92 rfl sz3 Ud)<|L.on rfl<|L.va (q0 (v:=.i (n:Int)) rfl underlying3 rfl (jd0 (o:=2) hT Uo rfl))<|L.on rfl<|L.va (O8 (r:=false) (decide_eq_false Uo) (zp0 rfl rfl))<|L.va (H7 rfl)<|U34 ?_;refine U18 ?_;refine U504 ?_;refine U382 ?_;rintro _ w ⟨rfl,A1⟩;have hb:=B0 hb A1;clear A1;refine L.va (Gl0 rfl underlying97 rfl underlying95 rfl rfl)<|L.va (A7 rfl underlying95 rfl)<|U7 ?_;exact U56
end
theorem Xg0{K:Cfg prog}(hK:KOk K){K4:K.L}{m:Gm}{F:Nat->Prop}(cb wb:Nat)(obj num:Int)(sa2:Option Addr)(sn2 sc2:Nat)(ct2 md2:Int)(w0:World)(hT:K.Told w0 m F (.inl K4))(O2:K.stp K4=⟨8,obj,num⟩)(hrd:∀s,K.rdy K4 s=true)(hW:I0 w0 wb #[.bool false] 99)(hC:I0 w0 cb #[.i obj,.i num,.p wb,.slice sa2 sn2 sc2,.i ct2,.i md2] 164)(hgo:∀u F',K.Goes w0 m F K4 u F'->∃sa sn sc ct md,I0 u cb #[.i obj,.i num,.p wb,.slice sa sn sc,.i ct,.i md] 164):@Calls prog (J0 K) 39 #[.p cb,.p K.ptr] w0 (o3 K w0 fun v u=>∃F',Gn K w0 m F K4 u F'/\∃sa sn sc ct md,v= .agg #[.slice sa sn sc,.i ct,.i md]/\I0 u cb #[.i obj,.i num,.p wb,.slice sa sn sc,.i ct,.i md] 164):=by
 letI:Ctx prog:=J0 K;refine Calls.B6 (n:=26) func39 rfl rfl<|U214 ?_;intro hb w b2 F2;refine U21 ?_;intro lt2 hb;have hW:=hW.j0 F2.below;refine U141 ?_;intro hC Y1;refine U114 ?_;intro w b4 F4 lt4 hb;have hW:=hW.j0 F4.below;have hC:=hC.j0 F4.below;have Y1:=Y1.j0 F4.below;have L1:=F4.blk;refine U6 ?_;refine U37 ?_;intro w b5 F5 lt5;refine U43 ?_;intro n9 hb;refine U112 ?_;intro hW hC;refine U86 ?_;intro Y1 L1;have K2:=F5.blk;refine U5 ?_;refine U314 ?_;refine U88 ?_;refine U70 ?_;refine U185 ?_;refine U126 ?_;rintro _ w1 ⟨rfl,hw⟩;refine U29 ?_;refine U77 ?_;refine U70 ?_;refine U184 ?_;refine U187 ?_;have hbL:=hb;refine U305 ?_;intro hF5 hF2;have hF4:¬F b4:=fun z=>by have:=hK.tlt hT z;omega
 have hpl:@Calls prog (J0 K) 70 #[.agg #[.i obj,.i num],.p K.ptr,.i 8,.nilFunc,.func (.func 71) #[] #[.p b2,.p b5]] w (o3 K w fun v u2=>v= .tuple #[]/\∃u F',K.Goes w m F K4 u F'/\(∃sa sn sc ct md,I0 u2 b5 #[.slice sa sn sc,.i ct,.i md] 97/\I0 u cb #[.i obj,.i num,.p wb,.slice sa sn sc,.i ct,.i md] 164/\u.grownBy u2 (some b5))/\u2.tape=u.tape):=by
  refine dh0 hK w (hK.j0 hT hb) O2 (fun w1 l7=>.inl ⟨rfl,hrd⟩) ⟨0,#[],.inl rfl⟩ (.inr ⟨71,_,ho0 func71 rfl Tq0⟩) (fun u u2=>∃sa sn sc ct md,I0 u2 b5 #[.slice sa sn sc,.i ct,.i md] 97/\I0 u cb #[.i obj,.i num,.p wb,.slice sa sn sc,.i ct,.i md] 164/\u.grownBy u2 (some b5)) (fun w1 l7 u F' hg=>.inr ⟨71,_,ho0 func71 rfl Tq0,?_⟩);obtain⟨sa,sn,sc,ct,md,hCu⟩:=hgo u F' (Goes.down (B0 hb l7) hg);exact @C.mono _ (S5 prog K.c5 K.ptr K.num) _ _ _ _ _ (@Ju0 (S5 prog K.c5 K.ptr K.num) b2 b5 cb obj num _ _ _ _ _ _ _ _ _ _ _ u (Goes.be0 hg (Y1.j0 l7) (Nat.zero_lt_succ _) hF2).1 (Goes.be0 hg (K2.j0 l7) (Nat.zero_lt_succ _) hF5).1 hCu) fun v w' h=>⟨sa,sn,sc,ct,md,h.2.1,hCu,h.2.2⟩
 refine L.Y2 rfl (o8 rfl rfl rfl rfl rfl func70 rfl qq0 rfl) hpl ?_ ?_ (fun _ h=>h)
 ·rintro v u ⟨rfl,u0,F',hg,⟨sa,sn,sc,ct,md,wz0,hCu,j3⟩,ht⟩;refine U286 ?_;intro h5 hgn;obtain⟨lc1,h4⟩:=Goes.be0 hg L1 Ud hF4;have zw1:=(Goes.be0 hg K2 (Nat.zero_lt_succ _) hF5).1;have L1:=lc1.other j3 n9;have hC9:=hCu.other j3 (I0.ne hCu zw1 Ud);have K2:=wz0;clear hb wz0 Y1 hC hpl;have hC:=hC9;clear hC9;rename_i wL;clear hW;refine U6 ?_;refine U439 ?_;intro w G1 hg H2;have o6:=y5.gk0 L1 hg;have hgn:=hgn.H6 hg ⟨lt4,h4⟩;have hC:=hC.mod o6 rfl;have L1:=G1;refine U111 ?_;refine U466 ?_;exact⟨F',hgn,sa,sn,sc,ct,md,rfl,hC⟩
 ·rintro ch u ⟨u7,hh⟩;exact⟨u7,hh.at hbL.os hbL.output⟩
def nz0(n:Nat):ByteArray:=ByteArray.empty.push (UInt8.ofNat (48+n%10))
def jw0(n:Nat):ByteArray:=if n<10 then nz0 n else jw0 (n/10)++nz0 n
termination_by n
decreasing_by omega
theorem Ea0{n:Nat}(h:n<10):jw0 n=nz0 n:=by rw[jw0,if_pos h]
theorem Nb0{n:Nat}(h:¬n<10):jw0 n=jw0 (n/10)++nz0 n:=by rw[jw0,if_neg h]
theorem mn0(n:Nat):(nz0 n).size=1:=rfl
theorem id0:∀(k n:Nat),n<10 ^ k->(jw0 n).size <=k+1
 |0,n,h=>by rw[Ea0 (by simp at h;omega),mn0];omega
 |k+1,n,h=>by
  by_cases hn:n<10
  ·rw[Ea0 hn,mn0];omega
  ·rw[Nb0 hn,ByteArray.size_append,mn0];have:=id0 k (n/10) (by rw[Nat.pow_succ]at h;omega);omega
def pc0(n:Int):ByteArray:=if n<0 then ByteArray.mk #[45]++jw0 (-n).toNat else jw0 n.toNat
theorem Bz0{n:Int}(h:-9223372036854775808 <=n/\n <=9223372036854775807):(pc0 n).size <=30:=by
 unfold pc0;split
 ·rw[ByteArray.size_append];have:=id0 19 (-n).toNat (by(have:(10:Nat) ^ 19=10000000000000000000:=by decide);omega);have h1:(ByteArray.mk #[45]).size=1:=rfl;omega
 ·have:=id0 19 n.toNat (by(have:(10:Nat) ^ 19=10000000000000000000:=by decide);omega);omega
structure SOp where
 kind:Int
 xg0:Int
 key:ByteArray
def plc(o:SOp):Nat:=(o.xg0%4).toNat
theorem je0(o:SOp):plc o<4:=by unfold plc;omega
structure Ent where
 key:ByteArray
 num:Nat
 held:Bool
 Q3:Int
structure Str where
 held:Bool
 k6:Nat
 l:List Nat
 made:Nat
 V0:Nat
 R3:Nat
structure H4 where
 st:Nat->Str
 en:List Ent
 mn:Nat->Nat
def xh0:Str:=⟨false,0,[],0,1,0⟩
def jx0:H4:=⟨fun _=>xh0,[],fun _=>0⟩
def gE(s:H4)(e:Nat):Ent:=s.en.getD e ⟨⟨#[]⟩,0,false,0⟩
def K7(s:H4)(j:Nat)(x:Str):H4:={s with st:=P3 s.st j x}
def bd0(s:H4)(e:Nat)(x:Ent):H4:={s with en:=s.en.set e x}
inductive Ph where
 |bn0|look|more (e:Nat)|run (e:Nat)|mo0|lck|jf0|bo0 (e:Nat)|make|unl (e:Nat)
 |less (e:Nat)|ie0 (e:Nat)|et0 (e:Nat)|Q3 (e:Nat)|out (e:Nat)|cr0 (e:Nat)
 |G9 (e:Nat)|E6 (e:Nat)
structure Lb where
 k:Nat
 has:Nat->Option Nat
 to:Nat
 j:Nat
 q:ByteArray
 ph:Ph
 nu:Nat
 bs:Str
 bk:List ByteArray
def oW(obj:Int)(k:Int):Int:=IntKind.i64.wrap (obj+k)
def Z3(obj:Int)(b:Lb):Stp:=match b.ph with
 | .bn0=>⟨3,obj,b.j⟩
 | .look| .jf0| .et0 _=>⟨8,oW obj 1,b.j⟩
 | .more _| .bo0 _| .less _=>⟨7,oW obj 3,b.nu⟩
 | .run _| .mo0=>⟨4,obj,b.j⟩
 | .lck| .ie0 _=>⟨1,obj,b.j⟩
 | .make| .out _=>⟨9,oW obj 1,b.j⟩
 | .unl _| .cr0 _=>⟨2,obj,b.j⟩
 | .Q3 _=>⟨5,oW obj 3,b.nu⟩
 | .G9 _=>⟨1,oW obj 2,b.nu⟩
 | .E6 _=>⟨2,oW obj 2,b.nu⟩
def H9(b:Lb)(s:H4):Bool:=match b.ph with
 | .bn0=>!(s.st b.j).held
 | .lck| .ie0 _=>!(s.st b.j).held&&decide ((s.st b.j).k6=0)
 | .G9 e=>!(gE s e).held
 |_=>true
def ks0(s:H4):Option Nat->ByteArray
 |none=>ByteArray.mk #[]++ByteArray.mk #[47]++pc0 (-1)
 |some e=>(gE s e).key++ByteArray.mk #[47]++pc0 ((gE s e).num:Nat)
def I9(n:Nat):List SOp->Nat->(Nat->Option Nat)->H4->List Nte->I6 H4 Lb
 | [],_,_,s,nts=>⟨s,nts,.inr 1⟩
 |o::ops,k,has,s,nts=>
  if o.kind=1 then⟨s,nts,.inl ⟨k+1,has,plc o,jb0 n o.key,o.key,.bn0,0,xh0,[]⟩⟩
  else if o.kind=5 then I9 n ops (k+1) has s (nts ++ [⟨1,ks0 s (has (plc o))⟩])
  else match has (plc o)with
   |none=>I9 n ops (k+1) has s nts
   |some e=>
    if o.kind=2 then⟨s,nts,.inl ⟨k+1,has,0,0,(gE s e).key,.G9 e,(gE s e).num,xh0,[]⟩⟩
    else if o.kind=3 then⟨s,nts,.inl ⟨k+1,has,0,0,(gE s e).key,.E6 e,(gE s e).num,xh0,[]⟩⟩
    else if o.kind=4 then⟨s,nts,.inl ⟨k+1,P3 has (plc o) none,0,jb0 n (gE s e).key,(gE s e).key,.less e,(gE s e).num,xh0,[]⟩⟩
    else I9 n ops (k+1) has s nts
def T7(s:H4)(j:Nat):List ByteArray:=(s.st j).l.map fun e=>(gE s e).key
def dj0(s:H4)(j:Nat)(q:ByteArray):Option Nat:=(s.st j).l.find? fun e=>decide ((gE s e).key=q)
def ct0(s:H4)(e:Nat)(d:Int):H4:=bd0 s e {gE s e with Q3:=IntKind.i64.wrap ((gE s e).Q3+d)}
def if0(n i:Nat)(b:Lb)(s:H4):H4:=
 {st:=P3 s.st b.j {s.st b.j with l:=(s.st b.j).l ++ [s.en.length],made:=(s.st b.j).made+1,V0:=wn (s.st b.j).V0 (s.st b.j).l.length,R3:=(s.st b.j).R3+1}
  en:=s.en ++ [⟨b.q,b.j+(s.st b.j).made*n,false,1⟩]
  mn:=P3 s.mn i (s.mn i+1)}
def Gy0(s:H4)(j e:Nat):H4:=K7 s j {s.st j with l:=(s.st j).l.filter fun x=>decide (x≠e),R3:=(s.st j).R3+1}
def L7(n:Nat)(ops:List SOp)(i:Nat)(b:Lb)(s:H4):I6 H4 Lb:=match b.ph with
 | .bn0=>⟨K7 s b.j {s.st b.j with k6:=(s.st b.j).k6+1},[],.inl {b with ph:=.look}⟩
 | .look=>match dj0 s b.j b.q with
  |some e=>⟨s,[],.inl {b with ph:=.more e,nu:=(gE s e).num}⟩
  |none=>⟨s,[],.inl {b with ph:=.mo0}⟩
 | .more e=>⟨ct0 s e 1,[],.inl {b with ph:=.run e}⟩
 | .run e=>I9 n (ops.drop b.k) b.k (P3 b.has b.to (some e)) (K7 s b.j {s.st b.j with k6:=(s.st b.j).k6-1}) []
 | .mo0=>⟨K7 s b.j {s.st b.j with k6:=(s.st b.j).k6-1},[],.inl {b with ph:=.lck}⟩
 | .lck=>⟨K7 s b.j {s.st b.j with held:=true},[],.inl {b with ph:=.jf0}⟩
 | .jf0=>match dj0 s b.j b.q with
  |some e=>⟨s,[],.inl {b with ph:=.bo0 e,nu:=(gE s e).num}⟩
  |none=>⟨s,[],.inl {b with ph:=.make,bs:=s.st b.j,bk:=T7 s b.j}⟩
 | .bo0 e=>⟨ct0 s e 1,[],.inl {b with ph:=.unl e}⟩
 | .make=>⟨if0 n i b s,[],.inl {b with ph:=.unl s.en.length}⟩
 | .unl e=>I9 n (ops.drop b.k) b.k (P3 b.has b.to (some e)) (K7 s b.j {s.st b.j with held:=false}) []
 | .less e=>if(gE (ct0 s e (-1)) e).Q3=0 then⟨ct0 s e (-1),[],.inl {b with ph:=.ie0 e}⟩ else I9 n (ops.drop b.k) b.k b.has (ct0 s e (-1)) []
 | .ie0 e=>⟨K7 s b.j {s.st b.j with held:=true},[],.inl {b with ph:=.et0 e}⟩
 | .et0 e=>if e∈(s.st b.j).l then⟨s,[],.inl {b with ph:=.Q3 e,bs:=s.st b.j,bk:=T7 s b.j}⟩ else⟨s,[],.inl {b with ph:=.cr0 e}⟩
 | .Q3 e=>if(gE s e).Q3=0 then⟨s,[],.inl {b with ph:=.out e}⟩ else⟨s,[],.inl {b with ph:=.cr0 e}⟩
 | .out e=>⟨Gy0 s b.j e,[],.inl {b with ph:=.cr0 e}⟩
 | .cr0 _=>I9 n (ops.drop b.k) b.k b.has (K7 s b.j {s.st b.j with held:=false}) []
 | .G9 e=>I9 n (ops.drop b.k) b.k b.has (bd0 s e {gE s e with held:=true}) []
 | .E6 e=>I9 n (ops.drop b.k) b.k b.has (bd0 s e {gE s e with held:=false}) []
def jg0:Ph->Bool
 | .look| .more _| .run _| .mo0=>true
 |_=>false
def bi0:Ph->Bool
 | .jf0| .bo0 _| .make| .unl _| .et0 _| .Q3 _| .out _| .cr0 _=>true
 |_=>false
def Gz0(j:Nat):Lb ⊕ Nat->Bool
 | .inl b=>decide (b.j=j)&&jg0 b.ph
 | .inr _=>false
def mp0(j:Nat):Lb ⊕ Nat->Bool
 | .inl b=>decide (b.j=j)&&bi0 b.ph
 | .inr _=>false
def phE:Ph->Option Nat
 | .more e| .run e| .bo0 e| .unl e| .less e| .ie0 e| .et0 e| .Q3 e| .out e| .cr0 e| .G9 e| .E6 e=>some e
 |_=>none
def nuE:Ph->Option Nat
 | .more e| .bo0 e| .less e| .ie0 e| .et0 e| .Q3 e| .G9 e| .E6 e=>some e
 |_=>none
def Nc0:Ph->Option Nat
 | .less e| .ie0 e| .et0 e| .Q3 e| .out e| .cr0 e=>some e
 |_=>none
def inE:Ph->Option Nat
 | .Q3 e| .out e=>some e
 |_=>none
def gw1:Ph->Bool
 | .bn0| .look| .mo0| .lck| .jf0| .make=>true
 |_=>false
def Xh0:Ph->Bool
 | .bn0| .look| .more _| .run _| .mo0| .lck| .jf0| .bo0 _| .make| .unl _=>true
 |_=>false
def Nd0:Ph->Bool
 | .make| .Q3 _| .out _=>true
 |_=>false
structure LOk(n:Nat)(ops:List SOp)(i:Nat)(s:H4)(b:Lb):Prop where
 k:1 <=b.k/\b.k <=ops.length
 has:∀x e,b.has x=some e->e<s.en.length
 to:b.to<4
 j:b.j<n
 e:∀e,phE b.ph=some e->e<s.en.length
 nu:∀e,nuE b.ph=some e->b.nu=(gE s e).num
 mn:s.mn i <=b.k
 mn1:gw1 b.ph=true->s.mn i<b.k
 st:Xh0 b.ph=true->b.j=jb0 n b.q
 q:∀e,Nc0 b.ph=some e->b.q=(gE s e).key/\b.j=jb0 n b.q
 bs:Nd0 b.ph=true->s.st b.j=b.bs/\T7 s b.j=b.bk
 un:b.ph= .make->∀e∈(s.st b.j).l,(gE s e).key≠b.q
 inn:∀e,inE b.ph=some e->e∈(s.st b.j).l
section
variable{p:Ph}{e:Nat}
theorem Ne0(h:nuE p=some e):phE p=some e:=by cases p <;> first|exact h|cases h
theorem Ca0(h:Nc0 p=some e):phE p=some e:=by cases p <;> first|exact h|cases h
theorem md1(h:inE p=some e):bi0 p=true:=by cases p <;> first|rfl|cases h
theorem Xi0(h:Nd0 p=true):bi0 p=true:=by cases p <;> first|rfl|cases h
end
structure SOk(n m:Nat)(len:Nat->Nat)(s:H4):Prop where
 l:∀j e,e∈(s.st j).l->e<s.en.length
 nd:∀j,((s.st j).l.map fun e=>(gE s e).key).Nodup
 sl:∀j,1 <=(s.st j).V0/\(s.st j).V0 <=s.en.length+1
 ll:∀j,(s.st j).l.length <=s.en.length
 made:∀j,(s.st j).made <=s.en.length
 en:s.en.length=bh0 s.mn m
 mn:∀i,s.mn i <=len i
 nu:∀e,e<s.en.length->(gE s e).num<n*s.en.length
theorem Eb0{α:Type}(p:α->Bool){l:List α}{i:Nat}{a b:α}(h:l[i]? =some a):(l.set i b).countP p+(if p a=true then 1 else 0)=l.countP p+(if p b=true then 1 else 0):=by
 obtain⟨h1,h2⟩:=List.getElem?_eq_some_iff.1 h;rw[List.countP_set h1,h2];by_cases ha:p a=true
 ·have h3:0<l.countP p:=List.countP_pos_iff.2 ⟨a,List.mem_of_getElem? h,ha⟩;rw[if_pos ha];omega
 ·rw[if_neg ha];omega
theorem P8(n:Nat):∀(rest:List SOp)(k:Nat)(has:Nat->Option Nat)(s:H4)(nts:List Nte),(I9 n rest k has s nts).s=s
 | [],_,_,_,_=>rfl
 |o::rest,k,has,s,nts=>by
  unfold I9;split
  ·rfl
  split
  ·exact P8 n rest _ _ _ _
  split
  ·exact P8 n rest _ _ _ _
  split
  ·rfl
  split
  ·rfl
  split
  ·rfl
  ·exact P8 n rest _ _ _ _
theorem Pr0{α:Type}{l rest:List α}{k:Nat}{o:α}(h:l.drop k=o::rest):k<l.length/\l.drop (k+1)=rest:=by
 have h1:k<l.length:=by
  rcases Nat.lt_or_ge k l.length with z|z
  ·exact z
  ·rw[List.drop_eq_nil_of_le z]at h;cases h
 refine⟨h1,?_⟩;rw[List.drop_eq_getElem_cons h1]at h;exact(List.cons.inj h).2
theorem kt0{n i:Nat}{ops:List SOp}{s:H4}(hn:0<n):∀(rest:List SOp)(k:Nat)(has:Nat->Option Nat)(nts:List Nte),ops.drop k=rest->(∀x e,has x=some e->e<s.en.length)->s.mn i <=k ->
  (I9 n rest k has s nts).X4= .inr 1\/∃b,(I9 n rest k has s nts).X4= .inl b/\LOk n ops i s b/\jg0 b.ph=false/\bi0 b.ph=false
 | [],_,_,_,_,_,_=>.inl rfl
 |o::rest,k,has,nts,hd,hh,hm=>by
  obtain⟨hk,R6⟩:=Pr0 hd;unfold I9;split
  ·exact .inr ⟨_,rfl,⟨⟨Nat.succ_pos _,hk⟩,hh,je0 o,My0 hn _,(fun e h=>by cases h),(fun e h=>by cases h),by show _ <=k+1;omega,fun _=>by show _<k+1;omega,fun _=>rfl,(fun e h=>by cases h),Uz,Uz,(fun e h=>by cases h)⟩,rfl,rfl⟩
  split
  ·exact kt0 hn rest _ _ _ R6 hh Uo
  split
  ·exact kt0 hn rest _ _ _ R6 hh Uo
  rename_i e he;have hee:=hh _ e he;split
  ·exact .inr ⟨_,rfl,⟨⟨Nat.succ_pos _,hk⟩,hh,by show 0<4;omega,hn,(fun e' h=>by cases h;exact hee),(fun e' h=>by cases h;rfl),by show _ <=k+1;omega,Uz,Uz,(fun e h=>by cases h),Uz,Uz,(fun e h=>by cases h)⟩,rfl,rfl⟩
  split
  ·exact .inr ⟨_,rfl,⟨⟨Nat.succ_pos _,hk⟩,hh,by show 0<4;omega,hn,(fun e' h=>by cases h;exact hee),(fun e' h=>by cases h;rfl),by show _ <=k+1;omega,Uz,Uz,(fun e h=>by cases h),Uz,Uz,(fun e h=>by cases h)⟩,rfl,rfl⟩
  split
  ·refine .inr ⟨_,rfl,⟨⟨Nat.succ_pos _,hk⟩,fun x e' h=>?_,by show 0<4;omega,My0 hn _,(fun e' h=>by cases h;exact hee),(fun e' h=>by cases h;rfl),by show _ <=k+1;omega,Uz,Uz,(fun e' h=>by cases h;exact⟨rfl,rfl⟩),Uz,Uz,(fun e h=>by cases h)⟩,rfl,rfl⟩;have h:P3 has (plc o) none x=some e':=h;by_cases hx:x=plc o
   ·rw[hx,I1]at h;cases h
   ·rw[B1 hx]at h;exact hh x e' h
  ·exact kt0 hn rest _ _ _ R6 hh Uo
def sT(n i:Nat)(b:Lb)(s:H4):H4:=match b.ph with
 | .bn0=>K7 s b.j {s.st b.j with k6:=(s.st b.j).k6+1}
 | .more e| .bo0 e=>ct0 s e 1
 | .run _| .mo0=>K7 s b.j {s.st b.j with k6:=(s.st b.j).k6-1}
 | .lck| .ie0 _=>K7 s b.j {s.st b.j with held:=true}
 | .make=>if0 n i b s
 | .unl _| .cr0 _=>K7 s b.j {s.st b.j with held:=false}
 | .less e=>ct0 s e (-1)
 | .out e=>Gy0 s b.j e
 | .G9 e=>bd0 s e {gE s e with held:=true}
 | .E6 e=>bd0 s e {gE s e with held:=false}
 |_=>s
theorem Ha0(n i:Nat)(ops:List SOp)(b:Lb)(s:H4):(L7 n ops i b s).s=sT n i b s:=by
 unfold L7 sT;cases b.ph with
 |look=>show(match dj0 s b.j b.q with|some e=>(_:I6 H4 Lb)|none=>_).s=s;split <;> rfl
 |jf0=>show(match dj0 s b.j b.q with|some e=>(_:I6 H4 Lb)|none=>_).s=s;split <;> rfl
 |run e=>exact P8 ..
 |unl e=>exact P8 ..
 |less e=>show(if _ then(_:I6 H4 Lb) else _).s=_;split;rfl;exact P8 ..
 |et0 e=>show(if _ then(_:I6 H4 Lb) else _).s=_;split <;> rfl
 |Q3 e=>show(if _ then(_:I6 H4 Lb) else _).s=_;split <;> rfl
 |cr0 e=>exact P8 ..
 |G9 e=>exact P8 ..
 |E6 e=>exact P8 ..
 |_=>rfl
theorem ku0{s:H4}{e:Nat}{x:Ent}(h:e<s.en.length)(e':Nat):gE (bd0 s e x) e'=if e'=e then x else gE s e':=by
 unfold gE bd0;simp only[List.getD_eq_getElem?_getD,List.getElem?_set];by_cases he:e'=e
 ·subst he;simp[h]
 ·rw[if_neg (fun z=>he z.symm),if_neg he]
theorem Xj0{n i:Nat}{b:Lb}{s:H4}{e:Nat}(h:e<s.en.length):gE (if0 n i b s) e=gE s e:=by
 unfold gE if0;simp only[List.getD_eq_getElem?_getD];rw[List.getElem?_append_left h]
theorem Xk0(n i:Nat)(b:Lb)(s:H4):gE (if0 n i b s) s.en.length=⟨b.q,b.j+(s.st b.j).made*n,false,1⟩:=by
 unfold gE if0;simp only[List.getD_eq_getElem?_getD];rw[List.getElem?_append_right (Nat.le_refl _)];simp
structure Grs(s s':H4):Prop where
 len:s.en.length <=s'.en.length
 same:∀e,e<s.en.length->(gE s' e).key=(gE s e).key/\(gE s' e).num=(gE s e).num
section
variable{s:H4}{n i i':Nat}{ops:List SOp}{b:Lb}
theorem ej0{e:Nat}{x:Ent}(h:e<s.en.length)(h1:x.key=(gE s e).key)(h2:x.num=(gE s e).num):Grs s (bd0 s e x):=
 ⟨by show _ <=(s.en.set e x).length;rw[List.length_set];exact Nat.le_refl _,fun e' _=>by
  rw[ku0 h];by_cases he:e'=e
  ·subst he;rw[if_pos rfl];exact⟨h1,h2⟩
  ·rw[if_neg he];exact⟨rfl,rfl⟩⟩
theorem Kl0(h:LOk n ops i s b):Grs s (sT n i b s):=by
 have he:=h.e;unfold sT;cases hp:b.ph with
 |more e=>exact ej0 (he e (by rw[hp];rfl)) rfl rfl
 |bo0 e=>exact ej0 (he e (by rw[hp];rfl)) rfl rfl
 |less e=>exact ej0 (he e (by rw[hp];rfl)) rfl rfl
 |G9 e=>exact ej0 (he e (by rw[hp];rfl)) rfl rfl
 |E6 e=>exact ej0 (he e (by rw[hp];rfl)) rfl rfl
 |make=>exact⟨by show _ <=(s.en ++ [_]).length;rw[List.length_append];omega,fun e h=>by rw[Xj0 h];exact⟨rfl,rfl⟩⟩
 |_=>exact⟨Nat.le_refl _,fun _ _=>⟨rfl,rfl⟩⟩
theorem Nf0{j:Nat}(h:j≠b.j):(sT n i b s).st j=s.st j:=by
 unfold sT;cases b.ph <;> first|rfl|exact B1 h
theorem gx1(h:i'≠i):(sT n i b s).mn i'=s.mn i':=by
 unfold sT;cases b.ph <;> first|rfl|exact B1 h
theorem cu1(h:b.ph≠.make):(sT n i b s).mn i'=s.mn i':=by
 unfold sT;cases hp:b.ph <;> first|rfl|exact absurd hp h
theorem LOk.other{b':Lb}{s':H4}(h:LOk n ops i' s b')(hg:Grs s s')(hm:s'.mn i'=s.mn i')(hs:bi0 b'.ph=true->s'.st b'.j=s.st b'.j)(hl:∀e∈(s.st b'.j).l,e<s.en.length):LOk n ops i' s' b':=by
 have O1:∀e,phE b'.ph=some e->e<s.en.length:=h.e;refine⟨h.k,fun x e hx=>Nat.lt_of_lt_of_le (h.has x e hx) hg.len,h.to,h.j,fun e he=>Nat.lt_of_lt_of_le (h.e e he) hg.len,fun e he=>?_,by rw[hm];exact h.mn,fun hp=>by rw[hm];exact h.mn1 hp,h.st,fun e he=>?_,fun hb=>?_,fun hp e he=>?_,fun e hp=>?_⟩
 ·rw[(hg.same e (O1 e (Ne0 he))).2];exact h.nu e he
 ·rw[(hg.same e (O1 e (Ca0 he))).1];exact h.q e he
 ·have h1:=hs (Xi0 hb);have h2:=h.bs hb;refine⟨h1.trans h2.1,?_⟩;rw[<- h2.2];unfold T7;rw[h1];exact List.map_congr_left fun e he=>(hg.same e (hl e he)).1
 ·rw[hs (by rw[hp];rfl)]at he;rw[(hg.same e (hl e he)).1];exact h.un hp e he
 ·rw[hs (md1 hp)];exact h.inn e hp
end
theorem cv1{f:Nat->Nat}{i m:Nat}(h:i<m):bh0 (P3 f i (f i+1)) m=bh0 f m+1:=by
 induction m with
 |zero=>exact absurd h (Nat.not_lt_zero _)
 |succ m ih=>
  rw[W8,W8];by_cases he:i=m
  ·subst he;rw[I1,Kj0 (g:=f) fun j hj=>B1 Uo];omega
  ·rw[B1 (Ne.symm he),ih Uo];omega
theorem mf1{n k N:Nat}(h1:1 <=n)(h2:n <=N+1)(hk:k <=N):1 <=wn n k/\wn n k <=N+2:=by
 unfold wn;split <;> omega
theorem pd0{s s':H4}{l:List Nat}(hg:Grs s s')(hl:∀e∈l,e<s.en.length):(l.map fun e=>(gE s' e).key)=l.map fun e=>(gE s e).key:=
 List.map_congr_left fun e he=>(hg.same e (hl e he)).1
section
variable{n m i:Nat}{len:Nat->Nat}{s s':H4}{b:Lb}{ops:List SOp}
section
variable{j:Nat}{q:ByteArray}
theorem SOk.same(h:SOk n m len s)(hg:Grs s s')(he:s'.en.length=s.en.length)(hm:s'.mn=s.mn)(hs:∀j,(s'.st j).l=(s.st j).l/\(s'.st j).V0=(s.st j).V0/\(s'.st j).made=(s.st j).made):SOk n m len s':=
 ⟨fun j e h'=>by rw[(hs j).1]at h';rw[he];exact h.l j e h',fun j=>by rw[(hs j).1,pd0 hg (h.l j)];exact h.nd j,fun j=>by rw[(hs j).2.1,he];exact h.sl j,fun j=>by rw[(hs j).1,he];exact h.ll j,fun j=>by rw[(hs j).2.2,he];exact h.made j,by rw[he,hm];exact h.en,fun i=>by rw[hm];exact h.mn i,fun e hl=>by rw[he]at hl⊢;rw[(hg.same e hl).2];exact h.nu e hl⟩
theorem mg1{x:Str}(hx:x.l=(s.st j).l/\x.V0=(s.st j).V0/\x.made=(s.st j).made):∀j',(P3 s.st j x j').l=(s.st j').l/\(P3 s.st j x j').V0=(s.st j').V0/\(P3 s.st j x j').made=(s.st j').made:=fun j'=>by
 by_cases e:j'=j
 ·subst e;rw[I1];exact hx
 ·rw[B1 e];exact⟨rfl,rfl,rfl⟩
theorem SOk.bd0{e:Nat}{x:Ent}(h:SOk n m len s)(hg:Grs s (bd0 s e x)):SOk n m len (bd0 s e x):=
 h.same hg (List.length_set ..) rfl fun _=>⟨rfl,rfl,rfl⟩
theorem SOk.sT(h:SOk n m len s)(hb:LOk n ops i s b)(hi:i<m)(hlen:ops.length <=len i):SOk n m len (sT n i b s):=by
 have hg:=Kl0 hb;revert hg;unfold Sc.sT;cases hp:b.ph with
 |more e=>exact fun hg=>h.bd0 hg
 |bo0 e=>exact fun hg=>h.bd0 hg
 |less e=>exact fun hg=>h.bd0 hg
 |G9 e=>exact fun hg=>h.bd0 hg
 |E6 e=>exact fun hg=>h.bd0 hg
 |make=>
  intro hg;have hl:(if0 n i b s).en.length=s.en.length+1:=by show(s.en ++ [_]).length=_;rw[List.length_append];rfl
  have hmn:=hb.mn1 (by rw[hp];rfl);have hk:=hb.k.2;refine⟨fun j e he=>?_,fun j=>?_,fun j=>?_,fun j=>?_,fun j=>?_,?_,fun i'=>?_,fun e he=>?_⟩
  ·rw[hl];by_cases hj:j=b.j
   ·subst hj;have he:e∈(P3 s.st b.j _ b.j).l:=he;rw[I1]at he;rcases List.mem_append.1 he with z|z
    ·have:=h.l _ e z;omega
    ·have:=List.mem_singleton.1 z;omega
   ·have he:e∈(P3 s.st b.j _ j).l:=he;rw[B1 hj]at he;have:=h.l _ e he;omega
  ·by_cases hj:j=b.j
   ·subst hj;show((P3 s.st b.j _ b.j).l.map fun e=>(gE (if0 n i b s) e).key).Nodup;rw[I1];show(((s.st b.j).l ++ [s.en.length]).map fun e=>(gE (if0 n i b s) e).key).Nodup;rw[List.map_append,pd0 hg (h.l b.j)];refine List.nodup_append.2 ⟨h.nd b.j,by simp,fun a ha c hc=>?_⟩;have hc:c=b.q:=by
     rw[List.mem_singleton.1 hc];show(gE (if0 n i b s) s.en.length).key=b.q;rw[Xk0]
    rw[hc];obtain⟨e,he,rfl⟩:=List.mem_map.1 ha;exact hb.un hp e he
   ·show((P3 s.st b.j _ j).l.map fun e=>(gE (if0 n i b s) e).key).Nodup;rw[B1 hj,pd0 hg (h.l j)];exact h.nd j
  ·rw[hl];show 1 <=(P3 s.st b.j _ j).V0/\(P3 s.st b.j _ j).V0 <=_;by_cases hj:j=b.j
   ·subst hj;rw[I1];have:=mf1 (h.sl b.j).1 (h.sl b.j).2 (h.ll b.j);exact⟨this.1,by have:=this.2;show wn _ _ <=_;omega⟩
   ·rw[B1 hj];have:=h.sl j;omega
  ·rw[hl];show(P3 s.st b.j _ j).l.length <=_;by_cases hj:j=b.j
   ·subst hj;rw[I1];have:=h.ll b.j;show((s.st b.j).l ++ [_]).length <=_;rw[List.length_append,List.length_singleton];omega
   ·rw[B1 hj];have:=h.ll j;omega
  ·rw[hl];show(P3 s.st b.j _ j).made <=_;by_cases hj:j=b.j
   ·subst hj;rw[I1];have:=h.made b.j;show _+1 <=_;omega
   ·rw[B1 hj];have:=h.made j;omega
  ·rw[hl];show _=bh0 (P3 s.mn i (s.mn i+1)) m;rw[cv1 hi,<- h.en]
  ·show P3 s.mn i (s.mn i+1) i' <=len i';by_cases hi':i'=i
   ·subst hi';rw[I1];omega
   ·rw[B1 hi'];exact h.mn i'
  ·rw[hl]at he⊢;rcases Nat.lt_or_ge e s.en.length with z|z
   ·rw[Xj0 z];exact Nat.lt_of_lt_of_le (h.nu e z) (Nat.mul_le_mul_left _ (Nat.le_succ _))
   ·obtain rfl:e=s.en.length:=by omega
    rw[Xk0];show b.j+(s.st b.j).made*n<_;have h1:=hb.j;have h2:(s.st b.j).made*n <=n*s.en.length:=by rw[Nat.mul_comm];exact Nat.mul_le_mul_left _ (h.made b.j)
    rw[Nat.mul_succ];omega
 |out e=>
  intro hg;have Ps0:∀j,((Gy0 s b.j e).st j).l.Sublist (s.st j).l:=fun j=>by
   show(P3 s.st b.j _ j).l.Sublist _;by_cases hj:j=b.j
   ·subst hj;rw[I1];exact List.filter_sublist
   ·rw[B1 hj];exact List.Sublist.refl _
  have Od0:∀j,((Gy0 s b.j e).st j).V0=(s.st j).V0/\((Gy0 s b.j e).st j).made=(s.st j).made:=fun j=>by
   show(P3 s.st b.j _ j).V0=_/\(P3 s.st b.j _ j).made=_;by_cases hj:j=b.j
   ·subst hj;rw[I1];exact⟨rfl,rfl⟩
   ·rw[B1 hj];exact⟨rfl,rfl⟩
  refine⟨fun j e' he=>h.l j e' ((Ps0 j).subset he),fun j=>?_,fun j=>by rw[(Od0 j).1];exact h.sl j,fun j=>Nat.le_trans (Ps0 j).length_le (h.ll j),fun j=>by rw[(Od0 j).2];exact h.made j,h.en,h.mn,h.nu⟩;show(((Gy0 s b.j e).st j).l.map fun e=>(gE s e).key).Nodup;exact List.Nodup.sublist ((Ps0 j).map _) (h.nd j)
 |look=>exact fun _=>h
 |jf0=>exact fun _=>h
 |et0 e=>exact fun _=>h
 |Q3 e=>exact fun _=>h
 |_=>exact fun hg=>h.same hg rfl rfl (mg1 ⟨rfl,rfl,rfl⟩)
theorem Cb0{s:H4}{e:Nat}(h:dj0 s j q=some e):e∈(s.st j).l/\(gE s e).key=q:=by
 unfold dj0 at h;exact⟨List.mem_of_find?_eq_some h,by simpa using List.find?_some h⟩
theorem Pt0{s:H4}(h:dj0 s j q=none):∀e∈(s.st j).l,(gE s e).key≠q:=by
 unfold dj0 at h;intro e he;simpa using List.find?_eq_none.1 h e he
end
def rdN:Ph->Bool
 | .bn0| .look| .more _=>true
 |_=>false
def wrN:Ph->Bool
 | .lck| .jf0| .bo0 _| .make| .ie0 _| .et0 _| .Q3 _| .out _=>true
 |_=>false
structure Nxt(n i:Nat)(ops:List SOp)(b:Lb)(s':H4)(f:Lb ⊕ Nat):Prop where
 ok:∀b',f= .inl b'->LOk n ops i s' b'
 rd:∀j,Gz0 j f=(decide (b.j=j)&&rdN b.ph)
 wr:∀j,mp0 j f=(decide (b.j=j)&&wrN b.ph)
theorem Nxt.fin{has:Nat->Option Nat}(hn:0<n)(hh:∀x e,has x=some e->e<s'.en.length)(hm:s'.mn i <=b.k)(h1:rdN b.ph=false)(h2:wrN b.ph=false):Nxt n i ops b s' (I9 n (ops.drop b.k) b.k has s' []).X4:=by
 rcases kt0 (i:=i) (ops:=ops) (s:=s') hn _ b.k has [] rfl hh hm with h|⟨b',h,h3,h4,h5⟩
 ·rw[h];exact⟨fun b' z=>(by cases z),fun j=>(by rw[h1,Bool.and_false];rfl),fun j=>(by rw[h2,Bool.and_false];rfl)⟩
 ·rw[h];exact⟨fun b' z=>(by cases z;exact h3),fun j=>(by rw[h1,Bool.and_false];show(_&&jg0 b'.ph)=_;rw[h4,Bool.and_false]),fun j=>(by rw[h2,Bool.and_false];show(_&&bi0 b'.ph)=_;rw[h5,Bool.and_false])⟩
theorem LOk.on{p':Ph}{nu':Nat}{bs':Str}{bk':List ByteArray}(h:LOk n ops i s b)(hg:Grs s s')(he:∀e,phE p'=some e->e<s'.en.length)(hnu:∀e,nuE p'=some e->nu'=(gE s' e).num)(hm:s'.mn i <=b.k)(hm1:gw1 p'=true->s'.mn i<b.k)(O2:Xh0 p'=true->b.j=jb0 n b.q)(hq:∀e,Nc0 p'=some e->b.q=(gE s' e).key/\b.j=jb0 n b.q)(hbs:Nd0 p'=true->s'.st b.j=bs'/\T7 s' b.j=bk')(hun:p'= .make->∀e∈(s'.st b.j).l,(gE s' e).key≠b.q)(hin:∀e,inE p'=some e->e∈(s'.st b.j).l)(h1:jg0 p'=rdN b.ph)(h2:bi0 p'=wrN b.ph):Nxt n i ops b s' (.inl {b with ph:=p',nu:=nu',bs:=bs',bk:=bk'}):=
 ⟨fun b' z=>by cases z;exact⟨h.k,fun x e hx=>Nat.lt_of_lt_of_le (h.has x e hx) hg.len,h.to,h.j,he,hnu,hm,hm1,O2,hq,hbs,hun,hin⟩,fun j=>by rw[<- h1];rfl,fun j=>by rw[<- h2];rfl⟩
theorem ue0(hn:0<n)(h:LOk n ops i s b)(hS:SOk n m len s):Nxt n i ops b (Sc.sT n i b s) (L7 n ops i b s).X4:=by
 obtain⟨k,has,to,j,q,ph,nu,bs,bk⟩:=b;have hg:=Kl0 h;have hmn:ph≠.make->(Sc.sT n i ⟨k,has,to,j,q,ph,nu,bs,bk⟩ s).mn i=s.mn i:=fun z=>cu1 z;have hE:=fun e he=>Nat.lt_of_lt_of_le (h.e e he) hg.len;have hQ:∀e,Nc0 ph=some e->q=(gE (Sc.sT n i ⟨k,has,to,j,q,ph,nu,bs,bk⟩ s) e).key/\j=jb0 n q:=fun e he=>by rw[(hg.same e (h.e e (Ca0 he))).1];exact h.q e he
 have hN:∀e,nuE ph=some e->nu=(gE (Sc.sT n i ⟨k,has,to,j,q,ph,nu,bs,bk⟩ s) e).num:=fun e he=>by rw[(hg.same e (h.e e (Ne0 he))).2];exact h.nu e he
 have O2:=h.st;have hm1:=h.mn1;have hm:=h.mn;have hH:∀(x e:Nat),has x=some e->e<(Sc.sT n i ⟨k,has,to,j,q,ph,nu,bs,bk⟩ s).en.length:=fun x e hx=>Nat.lt_of_lt_of_le (h.has x e hx) hg.len;have hU:∀e,phE ph=some e->∀(x e':Nat),P3 has to (some e) x=some e'->e'<(Sc.sT n i ⟨k,has,to,j,q,ph,nu,bs,bk⟩ s).en.length:=fun e he x e' hx=>by
  by_cases hxt:x=to
  ·rw[hxt,I1]at hx;cases hx;exact hE e he
  ·rw[B1 hxt]at hx;exact hH x e' hx
 cases ph with
 |bn0=>
  exact h.on hg Uy Uy hm (fun _=>hm1 rfl) (fun _=>O2 rfl) Uy Uz Uz Uy rfl rfl
 |look=>
  unfold L7;dsimp only;cases hf:dj0 s j q with
  |none=>exact h.on hg Uy Uy hm (fun _=>hm1 rfl) (fun _=>O2 rfl) Uy Uz Uz Uy rfl rfl
  |some e=>exact h.on hg (fun e' z=>by cases z;exact hS.l _ _ (Cb0 hf).1) (fun e' z=>by cases z;rfl) hm Uz (fun _=>O2 rfl) Uy Uz Uz Uy rfl rfl
 |more e=>
  exact h.on hg (fun e' z=>by cases z;exact hE e rfl) Uy hm Uz (fun _=>O2 rfl) Uy Uz Uz Uy rfl rfl
 |run e=>
  exact Nxt.fin hn (hU e rfl) hm rfl rfl
 |mo0=>
  exact h.on hg Uy Uy hm (fun _=>hm1 rfl) (fun _=>O2 rfl) Uy Uz Uz Uy rfl rfl
 |lck=>
  exact h.on hg Uy Uy hm (fun _=>hm1 rfl) (fun _=>O2 rfl) Uy Uz Uz Uy rfl rfl
 |jf0=>
  unfold L7;dsimp only;cases hf:dj0 s j q with
  |none=>exact h.on hg Uy Uy hm (fun _=>hm1 rfl) (fun _=>O2 rfl) Uy (fun _=>⟨rfl,rfl⟩) (fun _=>Pt0 hf) Uy rfl rfl
  |some e=>exact h.on hg (fun e' z=>by cases z;exact hS.l _ _ (Cb0 hf).1) (fun e' z=>by cases z;rfl) hm Uz (fun _=>O2 rfl) Uy Uz Uz Uy rfl rfl
 |bo0 e=>
  exact h.on hg (fun e' z=>by cases z;exact hE e rfl) Uy hm Uz (fun _=>O2 rfl) Uy Uz Uz Uy rfl rfl
 |make=>
  refine h.on hg (fun e' z=>?_) Uy ?_ Uz (fun _=>O2 rfl) Uy Uz Uz Uy rfl rfl
  ·cases z;show s.en.length<(s.en ++ [_]).length;rw[List.length_append,List.length_singleton];omega
  ·show P3 s.mn i (s.mn i+1) i <=k;rw[I1];have:s.mn i<k:=hm1 rfl;show s.mn i+1 <=k;omega
 |unl e=>
  exact Nxt.fin hn (hU e rfl) hm rfl rfl
 |less e=>
  unfold L7;dsimp only;split
  ·exact h.on hg (fun e' z=>by cases z;exact hE e rfl) (fun e' z=>by cases z;exact hN e rfl) hm Uz Uz (fun e' z=>by cases z;exact hQ e rfl) Uz Uz Uy rfl rfl
  ·exact Nxt.fin hn hH hm rfl rfl
 |ie0 e=>
  exact h.on hg (fun e' z=>by cases z;exact hE e rfl) (fun e' z=>by cases z;exact hN e rfl) hm Uz Uz (fun e' z=>by cases z;exact hQ e rfl) Uz Uz Uy rfl rfl
 |et0 e=>
  unfold L7;dsimp only;split
  ·rename_i hi;exact h.on hg (fun e' z=>by cases z;exact hE e rfl) (fun e' z=>by cases z;exact hN e rfl) hm Uz Uz (fun e' z=>by cases z;exact hQ e rfl) (fun _=>⟨rfl,rfl⟩) Uz (fun e' z=>by cases z;exact hi) rfl rfl
  ·exact h.on hg (fun e' z=>by cases z;exact hE e rfl) (fun e' z=>by cases z) hm Uz Uz (fun e' z=>by cases z;exact hQ e rfl) Uz Uz Uy rfl rfl
 |Q3 e=>
  have hbs:=h.bs rfl;have hin:=h.inn e rfl;unfold L7;dsimp only;split
  ·exact h.on hg (fun e' z=>by cases z;exact hE e rfl) (fun e' z=>by cases z) hm Uz Uz (fun e' z=>by cases z;exact hQ e rfl) (fun _=>hbs) Uz (fun e' z=>by cases z;exact hin) rfl rfl
  ·exact h.on hg (fun e' z=>by cases z;exact hE e rfl) (fun e' z=>by cases z) hm Uz Uz (fun e' z=>by cases z;exact hQ e rfl) Uz Uz Uy rfl rfl
 |out e=>
  exact h.on hg (fun e' z=>by cases z;exact hE e rfl) (fun e' z=>by cases z) hm Uz Uz (fun e' z=>by cases z;exact hQ e rfl) Uz Uz Uy rfl rfl
 |cr0 e=>
  exact Nxt.fin hn hH hm rfl rfl
 |G9 e=>
  exact Nxt.fin hn hH hm rfl rfl
 |E6 e=>
  exact Nxt.fin hn hH hm rfl rfl
end
@[reducible] def Hb0(n m:Nat)(obj:Int)(bo:Nat->List SOp)(le:Nat->Gm->Gm->Prop)(Inv:H4->Gm->World->(Nat->Prop)->Prop)(lb:Nat)(pl:Nat->O7):Sys where
 S:=H4
 L:=Lb
 m:=m
 s0:=jx0
 nil:=fun _=>false
 stp:=fun _ b=>Z3 obj b
 rdy:=fun _ b s=>H9 b s
 beg:=fun i s=>I9 n (bo i) 0 (fun _=>none) s []
 go:=fun i b s=>L7 n (bo i) i b s
 le:=le
 Inv:=Inv
 lb:=lb
 pl:=pl
structure TOk(n m:Nat)(bo:Nat->List SOp)(s:H4)(ft:List (Lb ⊕ Nat)):Prop where
 so:SOk n m (fun i=>(bo i).length) s
 rd:∀j,(s.st j).k6=ft.countP (Gz0 j)
 wr:∀j,ft.countP (mp0 j)=if(s.st j).held=true then 1 else 0
 ex:∀j,(s.st j).held=true->(s.st j).k6=0
 K4:∀i b,ft[i]? =some (.inl b)->LOk n (bo i) i s b
 new:∀i,ft.length <=i->s.mn i=0
section
variable{n m:Nat}{obj:Int}{bo:Nat->List SOp}{s:H4}{ft:List (Lb ⊕ Nat)}{b:Lb}{i:Nat}
section
variable{i':Nat}{b':Lb}
theorem TOk.start:TOk n m bo jx0 []:=by
 have h0:bh0 jx0.mn m=0:=by
  have:=Dz0 (f:=jx0.mn) (n:=m) (B:=0) fun j _=>Nat.le_refl _;omega
 exact⟨⟨fun j e h=>(by cases h),fun j=>List.nodup_nil,fun j=>⟨Nat.le_refl _,Nat.le_refl _⟩,fun j=>Nat.le_refl _,fun j=>Nat.le_refl _,h0.symm,fun i=>Nat.zero_le _,fun e he=>absurd he (Nat.not_lt_zero _)⟩,fun j=>rfl,fun j=>rfl,fun j h=>(by cases h),fun i b h=>(by cases h),fun i _=>rfl⟩
theorem TOk.beg(h:TOk n m bo s ft)(hn:0<n):TOk n m bo s (ft ++ [(I9 n (bo ft.length) 0 (fun _=>none) s []).X4]):=by
 show TOk n m bo s (ft ++ [(I9 n ((bo ft.length).drop 0) 0 (fun _=>none) s []).X4]);rcases kt0 (i:=ft.length) (ops:=bo ft.length) (s:=s) hn _ 0 (fun _=>none) [] rfl (fun x e h=>by cases h) (by rw[h.new _ (Nat.le_refl _)];exact Nat.le_refl _)with hf|⟨b',hf,h3,h4,h5⟩
 ·rw[hf];refine⟨h.so,fun j=>?_,fun j=>?_,h.ex,fun i b hb=>?_,fun i hi=>h.new i (by rw[List.length_append]at hi;omega)⟩
  ·rw[List.countP_append,h.rd];rfl
  ·rw[List.countP_append,h.wr];rfl
  ·rcases eh0 hb with z|⟨_,z⟩
   ·exact h.K4 i b z
   ·cases z
 ·rw[hf];refine⟨h.so,fun j=>?_,fun j=>?_,h.ex,fun i b hb=>?_,fun i hi=>h.new i (by rw[List.length_append]at hi;omega)⟩
  ·have e:[(Sum.inl b':Lb ⊕ Nat)].countP (Gz0 j)=0:=by simp[Gz0,h4]
   rw[List.countP_append,h.rd,e];rfl
  ·have e:[(Sum.inl b':Lb ⊕ Nat)].countP (mp0 j)=0:=by simp[mp0,h5]
   rw[List.countP_append,h.wr,e];rfl
  ·rcases eh0 hb with z|⟨hi,z⟩
   ·exact h.K4 i b z
   ·cases z;subst hi;exact h3
theorem TOk.ek0(h:TOk n m bo s ft)(hb:ft[i']? =some (.inl b'))(hw:bi0 b'.ph=true):(s.st b'.j).held=true:=by
 have h1:0<ft.countP (mp0 b'.j):=List.countP_pos_iff.2 ⟨_,List.mem_of_getElem? hb,by simp[mp0,hw]⟩;rw[h.wr]at h1;cases hh:(s.st b'.j).held with
 |true=>rfl
 |false=>rw[hh]at h1;exact absurd h1 Ud
theorem TOk.Ec0(h:TOk n m bo s ft)(hb:ft[i']? =some (.inl b'))(hw:jg0 b'.ph=true):0<(s.st b'.j).k6:=by
 rw[h.rd];exact List.countP_pos_iff.2 ⟨_,List.mem_of_getElem? hb,by simp[Gz0,hw]⟩
theorem TOk.Xl0(h:TOk n m bo s ft){i:Nat}{b:Lb}(hb:ft[i]? =some (.inl b))(Z8:ft[i']? =some (.inl b'))(hw:bi0 b.ph=true)(W0:bi0 b'.ph=true)(hj:b.j=b'.j):i=i':=by
 rcases Nat.decEq i i' with X2|he
 ·exfalso;have h1:=Eb0 (mp0 b.j) (b:=(.inr 0:Lb ⊕ Nat)) hb;have h2:0<(ft.set i (.inr 0:Lb ⊕ Nat)).countP (mp0 b.j):=by
   refine List.countP_pos_iff.2 ⟨.inl b',List.mem_of_getElem? (i:=i') ?_,by simp[mp0,W0,hj]⟩;rw[List.getElem?_set_ne X2];exact Z8
  have h3:mp0 b.j (.inl b)=true:=by simp[mp0,hw]
  have h4:mp0 b.j (.inr 0:Lb ⊕ Nat)=false:=rfl;rw[h3,h4,h.wr]at h1;simp only[if_true,Bool.false_eq_true,if_false]at h1;split at h1 <;> omega
 ·exact he
end
def Ng0:Ph->Bool->Bool
 | .lck,_| .ie0 _,_=>true
 | .unl _,_| .cr0 _,_=>false
 |_,h=>h
def Nh0:Ph->Nat->Nat
 | .bn0,r=>r+1
 | .run _,r| .mo0,r=>r-1
 |_,r=>r
theorem uy1(n i:Nat)(b:Lb)(s:H4):((sT n i b s).st b.j).held=Ng0 b.ph (s.st b.j).held/\((sT n i b s).st b.j).k6=Nh0 b.ph (s.st b.j).k6:=by
 obtain⟨k,has,to,j,q,ph,nu,bs,bk⟩:=b;cases ph <;> first
  |exact⟨rfl,rfl⟩
  |simp[sT,K7,if0,Gy0,I1,Ng0,Nh0]
theorem Xm0{b:Lb}{s:H4}(h:H9 b s=true)(hp:b.ph= .bn0\/b.ph= .lck\/∃e,b.ph= .ie0 e):(s.st b.j).held=false:=by
 unfold H9 at h;rcases hp with z|z|⟨e,z⟩ <;> simp[z]at h <;> first|exact h|exact h.1
theorem Xn0{b:Lb}{s:H4}(h:H9 b s=true)(hp:b.ph= .lck\/∃e,b.ph= .ie0 e):(s.st b.j).k6=0:=by
 unfold H9 at h;rcases hp with z|⟨e,z⟩ <;> simp[z]at h <;> exact h.2
theorem TOk.n6(h:TOk n m bo s ft)(hn:0<n)(him:i<m)(hb:ft[i]? =some (.inl b))(hr:H9 b s=true):TOk n m bo (L7 n (bo i) i b s).s (ft.set i (L7 n (bo i) i b s).X4):=by
 have hL:=h.K4 i b hb;have hlen:=(List.getElem?_eq_some_iff.1 hb).1;have hX:=ue0 hn hL h.so;rw[Ha0];have O2:=uy1 n i b s;have pos:jg0 b.ph=true->0<(s.st b.j).k6:=fun z=>h.Ec0 hb z;have hld:bi0 b.ph=true->(s.st b.j).held=true:=fun z=>h.ek0 hb z;have hrl:=fun z=>Xm0 hr z;have hrr:=fun z=>Xn0 hr z;refine⟨h.so.sT hL him (Nat.le_refl _),fun j=>?_,fun j=>?_,fun j hj=>?_,fun i' b' Z8=>?_,fun i' hi'=>?_⟩
 ·have hc:=Eb0 (Gz0 j) (b:=(L7 n (bo i) i b s).X4) hb;rw[hX.rd j,<- h.rd j]at hc;have e1:Gz0 j (.inl b)=(decide (b.j=j)&&jg0 b.ph):=rfl;rw[e1]at hc;by_cases e:b.j=j
  ·subst e;rw[O2.2];revert hc pos;cases b.ph <;> simp[jg0,rdN,Nh0] <;> omega
  ·rw[Nf0 (Ne.symm e)];simp only[e,decide_false,Bool.false_and,Bool.false_eq_true,if_false]at hc;omega
 ·have hc:=Eb0 (mp0 j) (b:=(L7 n (bo i) i b s).X4) hb;rw[hX.wr j,h.wr j]at hc;have e1:mp0 j (.inl b)=(decide (b.j=j)&&bi0 b.ph):=rfl;rw[e1]at hc;by_cases e:b.j=j
  ·subst e;rw[O2.1];revert hc hld hrl;cases b.ph <;> simp[bi0,wrN,Ng0] <;> cases(s.st b.j).held <;> simp <;> omega
  ·rw[Nf0 (Ne.symm e)];simp only[e,decide_false,Bool.false_and,Bool.false_eq_true,if_false]at hc;omega
 ·by_cases e:j=b.j
  ·subst e;rw[O2.1]at hj;rw[O2.2];have hex:=h.ex b.j;revert hj hrl hrr;cases b.ph <;> simp[Ng0,Nh0] <;> first
    |(intro a c d;rw[a]at d;cases d)
    |(intro a c;exact c)
    |(intro a c;rw[hex c])
    |(intro a;exact hex a)
    |(intro a;rw[hex a])
  ·rw[Nf0 e]at hj⊢;exact h.ex j hj
 ·by_cases e:i'=i
  ·subst e;rw[List.getElem?_set_self hlen]at Z8;exact hX.ok b' (Option.some.inj Z8)
  ·rw[List.getElem?_set_ne (Ne.symm e)]at Z8;refine(h.K4 i' b' Z8).other (Kl0 hL) (gx1 e) (fun hw=>?_) (h.so.l b'.j);by_cases hj:b'.j=b.j
   ·have h1:=h.ek0 Z8 hw;have h2:=h.ex _ h1;rw[hj]at h1 h2⊢;have ah1:bi0 b.ph=true->False:=fun z=>e (h.Xl0 hb Z8 z hw hj.symm).symm;revert ah1 pos hrl;unfold sT;cases hp:b.ph <;> simp[jg0,bi0,h1,h2] <;> rfl
   ·exact Nf0 hj
 ·rw[List.length_set]at hi';rw[gx1 Uo];exact h.new i' hi'
theorem oa0{le:Nat->Gm->Gm->Prop}{Inv:H4->Gm->World->(Nat->Prop)->Prop}{lb:Nat}{pl:Nat->O7}(hn:0<n):∀q,(Hb0 n m obj bo le Inv lb pl).Reach q->TOk n m bo q.s q.ft:=by
 refine Sys.ind (Y:=Hb0 n m obj bo le Inv lb pl) (fun q=>TOk n m bo q.s q.ft) TOk.start (fun q hq O1=>?_) (fun q i b hq hm hf hr=>?_)
 ·have h1:=hq.beg hn;have hb:((Hb0 n m obj bo le Inv lb pl).bgn q).s=q.s:=P8 ..;rw[hb];exact h1
 ·have hm':q.ft.length=m:=hm;have hi:i<m:=by rw[<- hm'];exact(List.getElem?_eq_some_iff.1 hf).1
  have h1:=hq.n6 hn hi hf hr;have ht:(Hb0 n m obj bo le Inv lb pl).n6 q i={q with s:=(L7 n (bo i) i b q.s).s,ft:=q.ft.set i (L7 n (bo i) i b q.s).X4,evs:=q.evs ++ [(i,Z3 obj b)],nts:=q.nts++tell i (q.evs.length+1) (L7 n (bo i) i b q.s).nts,outs:=q.outs ++ [L7 n (bo i) i b q.s],who:=q.who ++ [some i],used:=q.used+1}:=by
   unfold Sys.n6;rw[hf]
  rw[ht];exact h1
end
theorem m7{w:World}{b:Nat}{cs:Array Value}{T:TypeId}(h:I0 w b cs T)(hT:T≠0):b<w.heap.size/\w.heap[b]? ≠some nothing:=by
 refine⟨(S3 h).lt,fun e=>?_⟩;have h':w.heap[b]? =some (.cells cs T (0,0)):=h;rw[h']at e;have e1:=Option.some.inj e;unfold nothing at e1;injection e1 with _ e2
 exact hT e2
def eb(m:Gm)(e:Nat):Nat:=m (9*e)-1
def va(m:Gm)(j v:Nat):Nat:=m (9*(j+64*v)+1)-1
def vc(m:Gm)(j v:Nat):Nat:=m (9*(j+64*v)+2)
def lmG(m:Gm)(e:Nat):Nat:=m (9*e+3)-1
def ltG(m:Gm)(e:Nat):Nat:=m (9*e+4)-1
def cnG(m:Gm)(e:Nat):Nat:=m (9*e+5)-1
def iaC(x:Nat):Option Addr:=if x <=1 then none else some ⟨x-2,0,none⟩
def iaK(a:Option Addr):Nat:=match a with
 |none=>1
 |some x=>x.block+2
theorem gy1{a:Option Addr}(h:∀x,a=some x->x=⟨x.block,0,none⟩):iaC (iaK a)=a:=by
 cases a with
 |none=>rfl
 |some x=>
  show(if x.block+2 <=1 then none else some (⟨x.block+2-2,0,none⟩:Addr))=some x;rw[if_neg Uo,Nat.add_sub_cancel];exact congrArg some (h x rfl).symm
def iaG(m:Gm)(j v i:Nat):Option Addr:=iaC (m (9*((j+64*v)*256+i)+7))
def icG(m:Gm)(j v i:Nat):Nat:=m (9*((j+64*v)*256+i)+8)-1
def LeG(m m':Gm):Prop:=∀x,m x≠0->m' x=m x
theorem LeG.refl(m:Gm):LeG m m:=fun _ _=>rfl
theorem LeG.trans{a b c:Gm}(h:LeG a b)(h':LeG b c):LeG a c:=fun x hx=>by
 have h1:=h x hx;rw[h' x (by rw[h1];exact hx),h1]
structure F6 where
 ky:Nat->ByteArray
structure C5 where
 n:Nat
 m:Nat
 obj:Int
 bo:Nat->List SOp
 tb:Nat
 wb:Nat
 rw:Nat->Nat
 ls:Nat->Nat
 cl:Nat->Nat
 RO:Nat->Prop
 wI:World
 B:Nat
 lb:Nat
 pl:Nat->O7
def lkC(p:C5)(s:H4)(j:Nat):Array Value:=#[.i p.obj,.i (j:Nat),.bool (s.st j).held,.i ((s.st j).k6:Nat)]
def clC(p:C5)(m:Gm)(s:H4)(j:Nat):Array Value:=#[.i (oW p.obj 1),.i (j:Nat),.p p.wb,.slice (some ⟨va m j (s.st j).R3,0,none⟩) (s.st j).V0 (vc m j (s.st j).R3),.i ((s.st j).l.length:Nat),.i ((s.st j).made:Nat)]
def enC(s:H4)(m:Gm)(e:Nat):Array Value:=#[.string (gE s e).key,.i ((gE s e).num:Nat),.pointer (some ⟨lmG m e,0,none⟩),.pointer (some ⟨cnG m e,0,none⟩)]
def ltC(p:C5)(s:H4)(e:Nat):Array Value:=#[.i (oW p.obj 2),.i ((gE s e).num:Nat),.bool (gE s e).held,.i 0]
def cnC(p:C5)(s:H4)(e:Nat)(sa:Value):Array Value:=#[.i (oW p.obj 3),.i ((gE s e).num:Nat),.p p.wb,.i (gE s e).Q3,sa]
structure EnM(p:C5)(m:Gm)(w:World)(s:H4)(r:F6)(e:Nat):Prop where
 g:m (9*e)≠0/\m (9*e+3)≠0/\m (9*e+4)≠0/\m (9*e+5)≠0
 gn:m (9*e+6)=(gE s e).num+1
 ky:r.ky (eb m e)=(gE s e).key
 sz:(gE s e).key.size <=1000000000000
 lo:p.B <=eb m e/\p.B <=lmG m e/\p.B <=ltG m e/\p.B <=cnG m e
 hE:I0 w (eb m e) (enC s m e) 127
 hM:I0 w (lmG m e) #[.iface 242 (.pointer (some ⟨ltG m e,0,none⟩))] 187
 hL:I0 w (ltG m e) (ltC p s e) 244
 hC:∃sa,I0 w (cnG m e) (cnC p s e sa) 191
structure j4(p:C5)(m:Gm)(w:World)(s:H4)(r:F6):Prop where
 lk:∀j,j<p.n->I0 w (p.ls j) (lkC p s j) 244
 cl:∀j,j<p.n->I0 w (p.cl j) (clC p m s j) 164
 bk:∀j,j<p.n->Bk w p.B (s.st j).V0 (some ⟨va m j (s.st j).R3,0,none⟩) (vc m j (s.st j).R3) (at_ r.ky (s.st j).V0 ((s.st j).l.map (eb m))) (iaG m j (s.st j).R3) (icG m j (s.st j).R3)
 en:∀e,e<s.en.length->EnM p m w s r e
 inj:∀e e',e<s.en.length->e'<s.en.length->e≠e'->eb m e≠eb m e'/\ltG m e≠ltG m e'/\cnG m e≠cnG m e'
 sep:∀e j,e<s.en.length->j<p.n->ltG m e≠p.ls j
 gv:∀j,j<p.n->m (9*(j+64*(s.st j).R3)+1)≠0/\m (9*(j+64*(s.st j).R3)+2)≠0
 gi:∀j i,j<p.n->i<(s.st j).V0->m (9*((j+64*(s.st j).R3)*256+i)+7)≠0/\m (9*((j+64*(s.st j).R3)*256+i)+8)≠0
 fe:∀e,s.en.length <=e->m (9*e)=0/\m (9*e+3)=0/\m (9*e+4)=0/\m (9*e+5)=0/\m (9*e+6)=0
 fv:∀j v,j<p.n->(s.st j).R3<v->m (9*(j+64*v)+1)=0/\m (9*(j+64*v)+2)=0/\∀i,i<256->m (9*((j+64*v)*256+i)+7)=0/\m (9*((j+64*v)*256+i)+8)=0
 ro:∀b,p.RO b->w.heap[b]? =p.wI.heap[b]?
def SF(p:C5)(m:Gm)(s:H4)(r:F6)(b:Nat):Prop:=
 (∃j,j<p.n/\(b=p.ls j\/b=p.cl j\/b=va m j (s.st j).R3\/∃i,i<(s.st j).V0/\iaG m j (s.st j).R3 i≠none/\b=ab (iaG m j (s.st j).R3 i))) \/
 (∃e,e<s.en.length/\(b=eb m e\/b=lmG m e\/b=ltG m e\/b=cnG m e))\/p.RO b
def uz1(p:C5)(s:H4)(m:Gm)(w:World)(F:Nat->Prop):Prop:=∃r,F=SF p m s r/\j4 p m w s r
@[reducible] def C1(p:C5):Sys:=Hb0 p.n p.m p.obj p.bo (fun _=>LeG) (uz1 p) p.lb p.pl
structure C6(p:C5):Prop where
 n:0<p.n/\p.n <=64
 tot:bh0 (fun i=>(p.bo i).length) p.m <=200
 m:p.m <=16
 ks:∀i o,o∈p.bo i->o.key.size <=1000000000000
 ro:∀b,p.RO b->b<p.wI.heap.size/\p.wI.heap[b]? ≠some nothing
 roD:∀b,p.RO b->b<p.B\/∃cs T,I0 p.wI b cs T/\T≠244/\T≠164/\T≠191
 lo:∀j,j<p.n->p.B <=p.ls j/\p.B <=p.cl j
 hT:p.RO p.tb/\I0 p.wI p.tb (arr 131 (bg0 p.wb p.obj p.n p.rw p.cl p.n p.n)) 92
 hW:p.RO p.wb/\I0 p.wI p.wb #[.bool false] 99
 hR:∀j,j<p.n->p.RO (p.rw j)/\I0 p.wI (p.rw j) #[.iface 242 (.pointer (some ⟨p.ls j,0,none⟩))] 160
section
variable{p:C5}{m:Gm}{w w':World}{s s':H4}{r:F6}
section
variable{j e b x:Nat}{cs:Array Value}{T:TypeId}
theorem SF.lk(h:j<p.n):SF p m s r (p.ls j):=.inl ⟨j,h,.inl rfl⟩
theorem SF.cl{j:Nat}(h:j<p.n):SF p m s r (p.cl j):=.inl ⟨j,h,.inr (.inl rfl)⟩
theorem SF.out(h:j<p.n):SF p m s r (va m j (s.st j).R3):=.inl ⟨j,h,.inr (.inr (.inl rfl))⟩
theorem SF.inn{i:Nat}(h:j<p.n)(hi:i<(s.st j).V0)(ha:iaG m j (s.st j).R3 i≠none):SF p m s r (ab (iaG m j (s.st j).R3 i)):=.inl ⟨j,h,.inr (.inr (.inr ⟨i,hi,ha,rfl⟩))⟩
theorem SF.eb{e:Nat}(h:e<s.en.length):SF p m s r (Sc.eb m e):=.inr (.inl ⟨e,h,.inl rfl⟩)
theorem SF.lm(h:e<s.en.length):SF p m s r (lmG m e):=.inr (.inl ⟨e,h,.inr (.inl rfl)⟩)
theorem SF.lt(h:e<s.en.length):SF p m s r (ltG m e):=.inr (.inl ⟨e,h,.inr (.inr (.inl rfl))⟩)
theorem SF.cn(h:e<s.en.length):SF p m s r (cnG m e):=.inr (.inl ⟨e,h,.inr (.inr (.inr rfl))⟩)
theorem EnM.congr(h:EnM p m w s r e)(he:∀b,b=eb m e\/b=lmG m e\/b=ltG m e\/b=cnG m e->w'.heap[b]? =w.heap[b]?):EnM p m w' s r e:=
 ⟨h.g,h.gn,h.ky,h.sz,h.lo,(he _ (.inl rfl)).trans h.hE,(he _ (.inr (.inl rfl))).trans h.hM,(he _ (.inr (.inr (.inl rfl)))).trans h.hL,let⟨sa,hC⟩:=h.hC;⟨sa,(he _ (.inr (.inr (.inr rfl)))).trans hC⟩⟩
theorem j4.congr(h:j4 p m w s r)(he:∀b,SF p m s r b->w'.heap[b]? =w.heap[b]?):j4 p m w' s r:=
 ⟨fun j hj=>(he _ (SF.lk hj)).trans (h.lk j hj),fun j hj=>(he _ (SF.cl hj)).trans (h.cl j hj),fun j hj=>(h.bk j hj).congr (fun _=>he _ (SF.out hj)) fun _i hi ha=>he _ (SF.inn hj hi ha),fun e hl=>(h.en e hl).congr fun b hb=>he b (.inr (.inl ⟨e,hl,hb⟩)),h.inj,h.sep,h.gv,h.gi,h.fe,h.fv,fun b hb=>(he b (.inr (.inr hb))).trans (h.ro b hb)⟩
theorem j4.vis(h:j4 p m w s r)(hp:C6 p)(hb:SF p m s r b):b<w.heap.size/\w.heap[b]? ≠some nothing:=by
 rcases hb with⟨j,hj,rfl|rfl|rfl|⟨i,hi,ha,rfl⟩⟩|⟨e,hl,rfl|rfl|rfl|rfl⟩|hb
 ·exact m7 (h.lk j hj) Ud
 ·exact m7 (h.cl j hj) Ud
 ·obtain⟨cur,hc,_⟩:=(h.bk j hj).out.row (by simp);exact m7 hc Ud
 ·obtain⟨cur,hc,_⟩:=((h.bk j hj).inn i hi).row ha;exact m7 hc Ud
 ·exact m7 (h.en e hl).hE Ud
 ·exact m7 (h.en e hl).hM Ud
 ·exact m7 (h.en e hl).hL Ud
 ·obtain⟨sa,hC⟩:=(h.en e hl).hC;exact m7 hC Ud
 ·have h1:=h.ro b hb;have h2:=hp.ro b hb;refine⟨?_,by rw[h1];exact h2.2⟩;rcases Nat.lt_or_ge b w.heap.size with z|z
  ·exact z
  ·rw[Array.getElem?_eq_none z,Array.getElem?_eq_getElem h2.1]at h1;cases h1
theorem xk0(hp:C6 p):tn0 (C1 p):=by
 refine⟨⟨fun _ m=>LeG.refl m,fun _ _ _ _ h h'=>h.trans h'⟩,fun s m w w' F h he=>?_,fun s m w F h b hb=>?_⟩
 ·obtain⟨r,rfl,hM⟩:=h;exact⟨r,rfl,hM.congr he⟩
 ·obtain⟨r,rfl,hM⟩:=h;exact hM.vis hp hb
theorem j4.rob(h:j4 p m w s r)(hb:p.RO b/\I0 p.wI b cs T):I0 w b cs T:=(h.ro b hb.1).trans hb.2
theorem j4.off(h:j4 p m w s r)(hp:C6 p)(hx:I0 w x cs T)(hB:p.B <=x)(hT:T=244\/T=164\/T=191)(hb:p.RO b):b≠x:=by
 rcases hp.roD b hb with O1|⟨ds,U,hD,t1,t2,t3⟩
 ·omega
 ·have hD':I0 w b ds U:=(h.ro b hb).trans hD;refine I0.ne hD' hx ?_;rcases hT with rfl|rfl|rfl
  ·exact t1
  ·exact t2
  ·exact t3
theorem j4.upd(h:j4 p m w s r)(hp:C6 p){y:Nat}(hx:I0 w x cs T)(hB:p.B <=x)(hT:T=244\/T=191)(hg:bf0 w w' x y)(hy:y=x\/¬SF p m s r y)
  (hl:s'.en.length=s.en.length) (hs:∀j,(s'.st j).l=(s.st j).l/\(s'.st j).V0=(s.st j).V0/\(s'.st j).made=(s.st j).made/\(s'.st j).R3=(s.st j).R3) (hk:∀e,e<s.en.length->(gE s' e).key=(gE s e).key/\(gE s' e).num=(gE s e).num)
  (hlk:∀j,j<p.n->(p.ls j=x/\I0 w' x (lkC p s' j) 244)\/(p.ls j≠x/\lkC p s' j=lkC p s j)) (O1:∀e,e<s.en.length->(ltG m e=x/\I0 w' x (ltC p s' e) 244)\/(ltG m e≠x/\ltC p s' e=ltC p s e))
  (hcn:∀e,e<s.en.length->(cnG m e=x/\∃sa,I0 w' x (cnC p s' e sa) 191)\/(cnG m e≠x/\∀sa,cnC p s' e sa=cnC p s e sa)):j4 p m w' s' r:=by
 have stay:∀b,SF p m s r b->b≠x->w'.heap[b]? =w.heap[b]?:=fun b hb X2=>hg.block b (h.vis hp hb).1 X2 fun e=>by
  subst e;rcases hy with z|z
  ·exact X2 z
  ·exact z hb
 have hTs:T≠164/\T≠195/\T≠71/\T≠127/\T≠187:=by
  rcases hT with rfl|rfl <;> exact⟨by decide,by decide,by decide,by decide,by decide⟩
 have hgv:=h.gv;refine⟨fun j hj=>?_,fun j hj=>?_,fun j hj=>?_,fun e he=>?_,fun e e' he j8=>by rw[hl]at he j8;exact h.inj e e' he j8,fun e j he=>by rw[hl]at he;exact h.sep e j he,fun j hj=>by rw[(hs j).2.2.2];exact h.gv j hj,fun j i hj hi=>by rw[(hs j).2.1]at hi;rw[(hs j).2.2.2];exact h.gi j i hj hi,fun e he=>by rw[hl]at he;exact h.fe e he,fun j v hj=>by rw[(hs j).2.2.2];exact h.fv j v hj,fun b hb=>?_⟩
 ·rcases hlk j hj with⟨e,hb⟩|⟨e,hb⟩
  ·rw[e];exact hb
  ·rw[hb];exact(stay _ (SF.lk hj) e).trans (h.lk j hj)
 ·have e:clC p m s' j=clC p m s j:=by unfold clC;rw[(hs j).1,(hs j).2.1,(hs j).2.2.1,(hs j).2.2.2]
  rw[e];exact(stay _ (SF.cl hj) (I0.ne (h.cl j hj) hx hTs.1.symm)).trans (h.cl j hj)
 ·rw[(hs j).1,(hs j).2.1,(hs j).2.2.2];refine(h.bk j hj).congr (fun _=>stay _ (SF.out hj) ?_) fun i hi ha=>stay _ (SF.inn hj hi ha) ?_
  ·obtain⟨cur,hc,_⟩:=(h.bk j hj).out.row (by simp);exact I0.ne hc hx hTs.2.1.symm
  ·obtain⟨cur,hc,_⟩:=((h.bk j hj).inn i hi).row ha;exact I0.ne hc hx hTs.2.2.1.symm
 ·rw[hl]at he;have hE:=h.en e he;have hk:=hk e he;refine⟨hE.g,by rw[hk.2];exact hE.gn,by rw[hk.1];exact hE.ky,by rw[hk.1];exact hE.sz,hE.lo,?_,(stay _ (SF.lm he) (I0.ne hE.hM hx hTs.2.2.2.2.symm)).trans hE.hM,?_,?_⟩
  ·have e1:enC s' m e=enC s m e:=by unfold enC;rw[hk.1,hk.2]
   rw[e1];exact(stay _ (SF.eb he) (I0.ne hE.hE hx hTs.2.2.2.1.symm)).trans hE.hE
  ·rcases O1 e he with⟨e1,hb⟩|⟨e1,hb⟩
   ·rw[e1];exact hb
   ·rw[hb];exact(stay _ (SF.lt he) e1).trans hE.hL
  ·rcases hcn e he with⟨e1,hb⟩|⟨e1,hb⟩
   ·rw[e1];exact hb
   ·obtain⟨sa,hC⟩:=hE.hC;exact⟨sa,by rw[hb sa];exact(stay _ (SF.cn he) e1).trans hC⟩
 ·exact(stay b (.inr (.inr hb)) (h.off hp hx hB (by rcases hT with z|z;exact .inl z;exact .inr (.inr z)) hb)).trans (h.ro b hb)
end
end
theorem re0{w:World}{b:Nat}{cs ds:Array Value}{T U:TypeId}(h1:I0 w b cs T)(h2:I0 w b ds U):cs=ds:=by
 have e:(some (Obj.cells cs T (0,0)))=some (Obj.cells ds U (0,0)):=h1.symm.trans h2;injection e with e
 injection e with e
section
variable{p:C5}{m:Gm}{w w':World}{s:H4}{r:F6}
section
variable{j j' e:Nat}{hd:Bool}
theorem j4.va1(h:j4 p m w s r)(hj:j<p.n)(hj':j'<p.n)(X2:j≠j'):p.ls j≠p.ls j':=fun e=>by
 have h1:=h.lk j hj;rw[e]at h1;have h2:=re0 h1 (h.lk j' hj');unfold lkC at h2;have h3:=congrArg (fun a:Array Value=>a.toList) h2;simp at h3;omega
theorem j4.vb1(h:j4 p m w s r)(hj:j<p.n)(hj':j'<p.n)(X2:j≠j'):p.cl j≠p.cl j':=fun e=>by
 have h1:=h.cl j hj;rw[e]at h1;have h2:=re0 h1 (h.cl j' hj');unfold clC at h2;have h3:=congrArg (fun a:Array Value=>a.toList) h2;simp at h3;omega
theorem bf0.of{b:Nat}(hg:w.grownBy w' (some b)):bf0 w w' b b:=(bf0.refl w b b).step (.inl rfl) hg
theorem j4.lock(h:j4 p m w s r)(hp:C6 p)(hj:j<p.n){rd:Nat}(hg:w.grownBy w' (some (p.ls j)))(hB:I0 w' (p.ls j) #[.i p.obj,.i (j:Nat),.bool hd,.i (rd:Nat)] 244):j4 p m w' (K7 s j {s.st j with held:=hd,k6:=rd}) r:=by
 have O2:∀j',(P3 s.st j {s.st j with held:=hd,k6:=rd} j').l=(s.st j').l/\(P3 s.st j {s.st j with held:=hd,k6:=rd} j').V0=(s.st j').V0/\(P3 s.st j {s.st j with held:=hd,k6:=rd} j').made=(s.st j').made/\(P3 s.st j {s.st j with held:=hd,k6:=rd} j').R3=(s.st j').R3:=fun j'=>by
  by_cases e:j'=j
  ·subst e;rw[I1];exact⟨rfl,rfl,rfl,rfl⟩
  ·rw[B1 e];exact⟨rfl,rfl,rfl,rfl⟩
 refine h.upd hp (h.lk j hj) (hp.lo j hj).1 (.inl rfl) (bf0.of hg) (.inl rfl) rfl O2 (fun _ _=>⟨rfl,rfl⟩) (fun j' hj'=>?_) (fun e he=>.inr ⟨h.sep e j he hj,rfl⟩) (fun e he=>?_)
 ·by_cases e:j'=j
  ·subst e;refine .inl ⟨rfl,?_⟩;unfold lkC;show I0 w' _ #[_,_,.bool (P3 s.st j' _ j').held,.i ((P3 s.st j' _ j').k6:Nat)] _;rw[I1];exact hB
  ·refine .inr ⟨h.va1 hj' hj e,?_⟩;unfold lkC;show #[_,_,Value.bool (P3 s.st j _ j').held,Value.i ((P3 s.st j _ j').k6:Nat)]=_;rw[B1 e]
 ·obtain⟨sa,hC⟩:=(h.en e he).hC;exact .inr ⟨I0.ne hC (h.lk j hj) Ud,fun _=>rfl⟩
theorem j4.G9(h:j4 p m w s r)(hp:C6 p)(he:e<s.en.length)(hg:w.grownBy w' (some (ltG m e)))(hB:I0 w' (ltG m e) #[.i (oW p.obj 2),.i ((gE s e).num:Nat),.bool hd,.i 0] 244):j4 p m w' (bd0 s e {gE s e with held:=hd}) r:=by
 have hE:=h.en e he;refine h.upd hp hE.hL hE.lo.2.2.1 (.inl rfl) (bf0.of hg) (.inl rfl) (List.length_set ..) (fun _=>⟨rfl,rfl,rfl,rfl⟩) (ej0 (x:={gE s e with held:=hd}) he rfl rfl).same (fun j hj=>.inr ⟨(h.sep e j he hj).symm,rfl⟩) (fun e' j8=>?_) (fun e' j8=>?_)
 ·by_cases hee:e'=e
  ·subst hee;refine .inl ⟨rfl,?_⟩;unfold ltC;rw[ku0 he,if_pos rfl];exact hB
  ·refine .inr ⟨(h.inj e' e j8 he hee).2.1,?_⟩;unfold ltC;rw[ku0 he,if_neg hee]
 ·obtain⟨sa,hC⟩:=(h.en e' j8).hC;refine .inr ⟨I0.ne hC hE.hL Ud,fun sa=>?_⟩;unfold cnC;rw[ku0 he];by_cases hee:e'=e
  ·subst hee;rw[if_pos rfl]
  ·rw[if_neg hee]
theorem j4.cnt(h:j4 p m w s r)(hp:C6 p){y:Nat}(he:e<s.en.length){z:Int}{sa:Value}(hg:bf0 w w' (cnG m e) y)(hy:¬SF p m s r y)(hB:I0 w' (cnG m e) #[.i (oW p.obj 3),.i ((gE s e).num:Nat),.p p.wb,.i z,sa] 191):j4 p m w' (bd0 s e {gE s e with Q3:=z}) r:=by
 have hE:=h.en e he;obtain⟨sa0,hC0⟩:=hE.hC;refine h.upd hp hC0 hE.lo.2.2.2 (.inr rfl) hg (.inr hy) (List.length_set ..) (fun _=>⟨rfl,rfl,rfl,rfl⟩) (ej0 (x:={gE s e with Q3:=z}) he rfl rfl).same (fun j hj=>.inr ⟨I0.ne (h.lk j hj) hC0 Ud,rfl⟩) (fun e' j8=>?_) (fun e' j8=>?_)
 ·refine .inr ⟨I0.ne (h.en e' j8).hL hC0 Ud,?_⟩;unfold ltC;rw[ku0 he];by_cases hee:e'=e
  ·subst hee;rw[if_pos rfl]
  ·rw[if_neg hee]
 ·by_cases hee:e'=e
  ·subst hee;refine .inl ⟨rfl,sa,?_⟩;unfold cnC;rw[ku0 he,if_pos rfl];exact hB
  ·refine .inr ⟨(h.inj e' e j8 he hee).2.2,fun sa=>?_⟩;unfold cnC;rw[ku0 he,if_neg hee]
end
end
def bx0(m:Gm)(j v a c:Nat)(ia:Nat->Option Addr)(ic:Nat->Nat):Gm:=fun x=>if x=9*(j+64*v)+1 then a+1 else if x=9*(j+64*v)+2 then c else if x%9=7/\x/9/256=j+64*v then iaK (ia (x/9%256)) else if x%9=8/\x/9/256=j+64*v then ic (x/9%256)+1 else m x
def cu0(m:Gm)(e b lm lt cn nu:Nat):Gm:=fun x=>if x=9*e+6 then nu+1 else if x=9*e then b+1 else if x=9*e+3 then lm+1 else if x=9*e+4 then lt+1 else if x=9*e+5 then cn+1 else m x
section
variable(m:Gm){j v j' v' a c e k i:Nat}{ia:Nat->Option Addr}{ic:Nat->Nat}
theorem pe0(hk:k=0\/k=3\/k=4\/k=5\/k=6):bx0 m j v a c ia ic (9*e+k)=m (9*e+k):=by unfold bx0;rw[if_neg Uo,if_neg Uo,if_neg Uo,if_neg Uo]
theorem Ni0:bx0 m j v a c ia ic (9*e)=m (9*e):=pe0 m (.inl rfl)
theorem Km0:bx0 m j v a c ia ic (9*(j+64*v)+1)=a+1:=by unfold bx0;rw[if_pos rfl]
theorem Xo0:bx0 m j v a c ia ic (9*(j+64*v)+2)=c:=by unfold bx0;rw[if_neg Uo,if_pos rfl]
theorem Kn0(hi:i<256):bx0 m j v a c ia ic (9*((j+64*v)*256+i)+7)=iaK (ia i):=by
 unfold bx0;rw[if_neg Uo,if_neg Uo,if_pos Uo,show(9*((j+64*v)*256+i)+7)/9%256=i by omega]
theorem Xp0(hi:i<256):bx0 m j v a c ia ic (9*((j+64*v)*256+i)+8)=ic i+1:=by
 unfold bx0;rw[if_neg Uo,if_neg Uo,if_neg Uo,if_pos Uo,show(9*((j+64*v)*256+i)+8)/9%256=i by omega]
theorem rf0(hj:j<64)(hj':j'<64)(X2:j'≠j\/v'≠v):bx0 m j v a c ia ic (9*(j'+64*v')+1)=m (9*(j'+64*v')+1):=by unfold bx0;rw[if_neg Uo,if_neg Uo,if_neg Uo,if_neg Uo]
theorem Ed0(hj:j<64)(hj':j'<64)(X2:j'≠j\/v'≠v):bx0 m j v a c ia ic (9*(j'+64*v')+2)=m (9*(j'+64*v')+2):=by unfold bx0;rw[if_neg Uo,if_neg Uo,if_neg Uo,if_neg Uo]
theorem rg0(hj:j<64)(hj':j'<64)(X2:j'≠j\/v'≠v)(hi:i<256):bx0 m j v a c ia ic (9*((j'+64*v')*256+i)+7)=m (9*((j'+64*v')*256+i)+7):=by unfold bx0;rw[if_neg Uo,if_neg Uo,if_neg Uo,if_neg Uo]
theorem Ee0(hj:j<64)(hj':j'<64)(X2:j'≠j\/v'≠v)(hi:i<256):bx0 m j v a c ia ic (9*((j'+64*v')*256+i)+8)=m (9*((j'+64*v')*256+i)+8):=by unfold bx0;rw[if_neg Uo,if_neg Uo,if_neg Uo,if_neg Uo]
end
theorem pf0(m:Gm)(e b lm lt cn nu x:Nat)(k:Nat)(hk:k=1\/k=2\/k=7\/k=8):cu0 m e b lm lt cn nu (9*x+k)=m (9*x+k):=by unfold cu0;rw[if_neg Uo,if_neg Uo,if_neg Uo,if_neg Uo,if_neg Uo]
theorem rh0(m:Gm)(e b lm lt cn nu:Nat):cu0 m e b lm lt cn nu (9*e)=b+1/\cu0 m e b lm lt cn nu (9*e+3)=lm+1/\cu0 m e b lm lt cn nu (9*e+4)=lt+1/\cu0 m e b lm lt cn nu (9*e+5)=cn+1/\cu0 m e b lm lt cn nu (9*e+6)=nu+1:=by
 unfold cu0;exact⟨by rw[if_neg Uo,if_pos rfl],by rw[if_neg Uo,if_neg Uo,if_pos rfl],by rw[if_neg Uo,if_neg Uo,if_neg Uo,if_pos rfl],by rw[if_neg Uo,if_neg Uo,if_neg Uo,if_neg Uo,if_pos rfl],by rw[if_pos rfl]⟩
theorem ob0(m:Gm){e b lm lt cn nu e':Nat}(h:e'≠e):cu0 m e b lm lt cn nu (9*e')=m (9*e')/\cu0 m e b lm lt cn nu (9*e'+3)=m (9*e'+3)/\cu0 m e b lm lt cn nu (9*e'+4)=m (9*e'+4)/\cu0 m e b lm lt cn nu (9*e'+5)=m (9*e'+5)/\cu0 m e b lm lt cn nu (9*e'+6)=m (9*e'+6):=by
 unfold cu0;refine⟨?_,?_,?_,?_,?_⟩ <;> rw[if_neg Uo,if_neg Uo,if_neg Uo,if_neg Uo,if_neg Uo]
section
variable{p:C5}{m:Gm}{w w':World}{s s':H4}{r:F6}
section
variable{j a c n:Nat}{ia:Nat->Option Addr}{ic:Nat->Nat}{l:List Nat}
theorem j4.leG(h:j4 p m w s r)(hj:j<p.n):LeG m (bx0 m j ((s.st j).R3+1) a c ia ic):=fun x hx=>by
 have h1:=h.fv j ((s.st j).R3+1) hj (Nat.lt_succ_self _);unfold bx0;rw[if_neg (fun e=>hx (by rw[e];exact h1.1)),if_neg (fun e=>hx (by rw[e];exact h1.2.1)),if_neg (fun e=>?_),if_neg (fun e=>?_)]
 ·have N5:x=9*((j+64*((s.st j).R3+1))*256+x/9%256)+8:=by omega
  have h2:=(h1.2.2 (x/9%256) Uo).2;rw[<- N5]at h2;exact hx h2
 ·have N5:x=9*((j+64*((s.st j).R3+1))*256+x/9%256)+7:=by omega
  have h2:=(h1.2.2 (x/9%256) Uo).1;rw[<- N5]at h2;exact hx h2
theorem j4.leN(h:j4 p m w s r){b lm lt cn nu:Nat}:LeG m (cu0 m s.en.length b lm lt cn nu):=fun x hx=>by
 have h1:=h.fe _ (Nat.le_refl _);unfold cu0;rw[if_neg (fun e=>hx (by rw[e];exact h1.2.2.2.2)),if_neg (fun e=>hx (by rw[e];exact h1.1)),if_neg (fun e=>hx (by rw[e];exact h1.2.1)),if_neg (fun e=>hx (by rw[e];exact h1.2.2.1)),if_neg (fun e=>hx (by rw[e];exact h1.2.2.2.1))]
theorem oc0{ky ky':Nat->ByteArray}(h:∀b∈l,ky' b=ky b):at_ ky' n l=at_ ky n l:=by
 funext j;unfold at_
 exact List.filter_congr fun b hb=>by rw[h b hb]
theorem j4.Ko0(h:j4 p m w s r)(h1:s'.st=s.st)(h2:s'.en=s.en):j4 p m w s' r:=by
 obtain⟨st,en,mn⟩:=s;obtain⟨st',en',mn'⟩:=s';cases h1;cases h2;exact⟨h.lk,h.cl,h.bk,fun e he=>let hE:=h.en e he;⟨hE.g,hE.gn,hE.ky,hE.sz,hE.lo,hE.hE,hE.hM,hE.hL,hE.hC⟩,h.inj,h.sep,h.gv,h.gi,h.fe,h.fv,h.ro⟩
theorem Bk.Hc0{w:World}{B:Nat}{a:Option Addr}{sl:Nat->List Nat}{ia':Nat->Option Addr}{ic':Nat->Nat}(h:Bk w B n a c sl ia ic)(he:∀i,i<n->ia' i=ia i/\ic' i=ic i):Bk w B n a c sl ia' ic':=by
 refine⟨?_,fun i hi=>by rw[(he i hi).1,(he i hi).2];exact h.inn i hi⟩;have h1:=h.out
 rwa [oo0 (g:=fun j=>Value.slice (ia' j) (sl j).length (ic' j)) fun j hj=>by rw[(he j hj).1,(he j hj).2]]at h1
theorem j4.Xq0(h:j4 p m w s r)(hp:C6 p){made V0:Nat}(hj:j<p.n)(Kp0:V0 <=256)(hso:∀j,(s.st j).V0 <=256)(hg:w.grownBy w' (some (p.cl j)))(hc:c≠0)
  (hC:I0 w' (p.cl j) #[.i (oW p.obj 1),.i (j:Nat),.p p.wb,.slice (pt a) V0 c,.i (l.length:Nat),.i (made:Nat)] 164)
  (hB:Bk w' p.B V0 (pt a) c (at_ r.ky V0 (l.map (eb m))) ia ic) :
  j4 p (bx0 m j ((s.st j).R3+1) a c ia ic) w' (K7 s j ⟨(s.st j).held,(s.st j).k6,l,made,V0,(s.st j).R3+1⟩) r:=by
 have dk0:∀j',j'<p.n->j'<64:=fun j' hj'=>Nat.lt_of_lt_of_le hj' hp.n.2;have stay:∀b,SF p m s r b->b≠p.cl j->w'.heap[b]? =w.heap[b]?:=fun b hb X2=>hg.block b (h.vis hp hb).1 fun e=>X2 (Option.some.inj e);have hx:=h.cl j hj;obtain⟨M,hM⟩:∃M,M=bx0 m j ((s.st j).R3+1) a c ia ic:=⟨_,rfl⟩
 rw[<- hM];have hE:∀e k,(k=0\/k=3\/k=4\/k=5\/k=6)->M (9*e+k)=m (9*e+k):=fun e k hk=>by rw[hM];exact pe0 m hk
 have hE0:∀e,M (9*e)=m (9*e):=fun e=>hE e 0 (.inl rfl);have heb:∀e,eb M e=eb m e:=fun e=>by unfold eb;rw[hE0]
 have hlm:∀e,lmG M e=lmG m e:=fun e=>by unfold lmG;rw[hE _ 3 (.inr (.inl rfl))]
 have O1:∀e,ltG M e=ltG m e:=fun e=>by unfold ltG;rw[hE _ 4 (.inr (.inr (.inl rfl)))]
 have hcn:∀e,cnG M e=cnG m e:=fun e=>by unfold cnG;rw[hE _ 5 (.inr (.inr (.inr (.inl rfl))))]
 have Pu0:∀l:List Nat,l.map (eb M)=l.map (eb m):=fun l=>List.map_congr_left fun e _=>heb e;have hsj:(K7 s j ⟨(s.st j).held,(s.st j).k6,l,made,V0,(s.st j).R3+1⟩).st j=⟨(s.st j).held,(s.st j).k6,l,made,V0,(s.st j).R3+1⟩:=I1;have hsn:∀j',j'≠j->(K7 s j ⟨(s.st j).held,(s.st j).k6,l,made,V0,(s.st j).R3+1⟩).st j'=s.st j':=fun j' h=>B1 h;have hva:va M j ((s.st j).R3+1)=a:=by unfold va;rw[hM,Km0];rfl
 have hvc:vc M j ((s.st j).R3+1)=c:=by unfold vc;rw[hM,Xo0]
 have hvo:∀j',j'<p.n->j'≠j->∀v,va M j' v=va m j' v/\vc M j' v=vc m j' v:=fun j' hj' X2 v=>by
  unfold va vc;rw[hM,rf0 m (dk0 j hj) (dk0 j' hj') (.inl X2),Ed0 m (dk0 j hj) (dk0 j' hj') (.inl X2)];exact⟨rfl,rfl⟩
 have hio:∀j',j'<p.n->j'≠j->∀v i,i<256->iaG M j' v i=iaG m j' v i/\icG M j' v i=icG m j' v i:=fun j' hj' X2 v i hi=>by
  unfold iaG icG;rw[hM,rg0 m (dk0 j hj) (dk0 j' hj') (.inl X2) hi,Ee0 m (dk0 j hj) (dk0 j' hj') (.inl X2) hi];exact⟨rfl,rfl⟩
 have hii:∀i,i<V0->iaG M j ((s.st j).R3+1) i=ia i/\icG M j ((s.st j).R3+1) i=ic i:=fun i hi=>by
  unfold iaG icG;rw[hM,Kn0 m Uo,Xp0 m Uo];exact⟨gy1 (ia0 (hB.inn i hi)),rfl⟩
 refine⟨fun j' hj'=>?_,fun j' hj'=>?_,fun j' hj'=>?_,fun e he=>?_,fun e e' he j8 X2=>?_,fun e j' he hj'=>(by rw[O1];exact h.sep e j' he hj'),fun j' hj'=>?_,fun j' i hj' hi=>?_,fun e he=>by rw[hE0,hE _ 3 (.inr (.inl rfl)),hE _ 4 (.inr (.inr (.inl rfl))),hE _ 5 (.inr (.inr (.inr (.inl rfl)))),hE _ 6 (.inr (.inr (.inr (.inr rfl))))];exact h.fe e he,fun j' v hj' hv=>?_,fun b hb=>(stay b (.inr (.inr hb)) (h.off hp hx (hp.lo j hj).2 (.inr (.inl rfl)) hb)).trans (h.ro b hb)⟩
 ·have e:lkC p (K7 s j ⟨(s.st j).held,(s.st j).k6,l,made,V0,(s.st j).R3+1⟩) j'=lkC p s j':=by
   unfold lkC;by_cases hjj:j'=j
   ·subst hjj;rw[hsj]
   ·rw[hsn j' hjj]
  rw[e];exact(stay _ (SF.lk hj') (I0.ne (h.lk j' hj') hx Ud)).trans (h.lk j' hj')
 ·unfold clC;by_cases hjj:j'=j
  ·subst hjj;rw[hsj];show I0 w' _ #[_,_,_,.slice (some ⟨va _ _ ((s.st j').R3+1),0,none⟩) V0 (vc _ _ ((s.st j').R3+1)),_,_] _;rw[hva,hvc];exact hC
  ·rw[hsn j' hjj,(hvo j' hj' hjj _).1,(hvo j' hj' hjj _).2];exact(stay _ (SF.cl hj') (h.vb1 hj' hj hjj)).trans (h.cl j' hj')
 ·by_cases hjj:j'=j
  ·subst hjj;rw[hsj];show Bk w' p.B V0 (some ⟨va _ _ ((s.st j').R3+1),0,none⟩) (vc _ _ ((s.st j').R3+1)) (at_ r.ky V0 (l.map _)) (iaG _ _ ((s.st j').R3+1)) (icG _ _ ((s.st j').R3+1));rw[hva,hvc,Pu0];exact hB.Hc0 hii
  ·rw[hsn j' hjj,(hvo j' hj' hjj _).1,(hvo j' hj' hjj _).2,Pu0];have h1:Bk w' p.B (s.st j').V0 (some ⟨va m j' (s.st j').R3,0,none⟩) (vc m j' (s.st j').R3) (at_ r.ky (s.st j').V0 ((s.st j').l.map (eb m))) (iaG m j' (s.st j').R3) (icG m j' (s.st j').R3):=by
    refine(h.bk j' hj').congr (fun _=>stay _ (SF.out hj') ?_) fun i hi ha=>stay _ (SF.inn hj' hi ha) ?_
    ·obtain⟨cur,hcc,_⟩:=(h.bk j' hj').out.row (by simp);exact I0.ne hcc hx Ud
    ·obtain⟨cur,hcc,_⟩:=((h.bk j' hj').inn i hi).row ha;exact I0.ne hcc hx Ud
   exact h1.Hc0 fun i hi=>hio j' hj' hjj _ i (Nat.lt_of_lt_of_le hi (hso j'))
 ·have hE:=h.en e he;have hE1:EnM p m w' s r e:=hE.congr fun b hb=>by
   rcases hb with rfl|rfl|rfl|rfl
   ·exact stay _ (SF.eb he) (I0.ne hE.hE hx Ud)
   ·exact stay _ (SF.lm he) (I0.ne hE.hM hx Ud)
   ·exact stay _ (SF.lt he) (I0.ne hE.hL hx Ud)
   ·obtain⟨sa,hCn⟩:=hE.hC;exact stay _ (SF.cn he) (I0.ne hCn hx Ud)
  have he9:enC (K7 s j ⟨(s.st j).held,(s.st j).k6,l,made,V0,(s.st j).R3+1⟩) M e=enC s m e:=by unfold enC;rw[hlm,hcn];rfl
  have q:∀e k,(k=0\/k=3\/k=4\/k=5\/k=6)->M (9*e+k)=m (9*e+k):=fun e k hk=>by rw[hM];exact pe0 m hk
  exact⟨by rw[hE0,q _ 3 (.inr (.inl rfl)),q _ 4 (.inr (.inr (.inl rfl))),q _ 5 (.inr (.inr (.inr (.inl rfl))))];exact hE1.g,by rw[q _ 6 (.inr (.inr (.inr (.inr rfl))))];exact hE1.gn,by rw[heb];exact hE1.ky,hE1.sz,by rw[heb,hlm,O1,hcn];exact hE1.lo,by rw[heb,he9];exact hE1.hE,by rw[hlm,O1];exact hE1.hM,by rw[O1];exact hE1.hL,by rw[hcn];exact hE1.hC⟩
 ·rw[heb,heb,O1,O1,hcn,hcn];exact h.inj e e' he j8 X2
 ·by_cases hjj:j'=j
  ·subst hjj;rw[hsj];exact⟨by show M (9*(j'+64*((s.st j').R3+1))+1)≠0;rw[hM,Km0];omega,by show M (9*(j'+64*((s.st j').R3+1))+2)≠0;rw[hM,Xo0];exact hc⟩
  ·rw[hsn j' hjj,hM,rf0 m (dk0 j hj) (dk0 j' hj') (.inl hjj),Ed0 m (dk0 j hj) (dk0 j' hj') (.inl hjj)];exact h.gv j' hj'
 ·by_cases hjj:j'=j
  ·subst hjj;rw[hsj]at hi⊢;have hi:i<V0:=hi;refine⟨?_,?_⟩
   ·show M (9*((j'+64*((s.st j').R3+1))*256+i)+7)≠0;rw[hM,Kn0 m Uo];unfold iaK;split <;> omega
   ·show M (9*((j'+64*((s.st j').R3+1))*256+i)+8)≠0;rw[hM,Xp0 m Uo];omega
  ·rw[hsn j' hjj]at hi⊢;have hi2:=Nat.lt_of_lt_of_le hi (hso j');rw[hM,rg0 m (dk0 j hj) (dk0 j' hj') (.inl hjj) hi2,Ee0 m (dk0 j hj) (dk0 j' hj') (.inl hjj) hi2];exact h.gi j' i hj' hi
 ·have key:((s.st j').R3<v/\(j'≠j\/v≠(s.st j).R3+1)):=by
   by_cases hjj:j'=j
   ·subst hjj;rw[hsj]at hv;have hv:(s.st j').R3+1<v:=hv;exact⟨by omega,.inr Uo⟩
   ·rw[hsn j' hjj]at hv;exact⟨hv,.inl hjj⟩
  have h0:=h.fv j' v hj' key.1;rw[hM,rf0 m (dk0 j hj) (dk0 j' hj') key.2,Ed0 m (dk0 j hj) (dk0 j' hj') key.2];exact⟨h0.1,h0.2.1,fun i hi=>by rw[rg0 m (dk0 j hj) (dk0 j' hj') key.2 hi,Ee0 m (dk0 j hj) (dk0 j' hj') key.2 hi];exact h0.2.2 i hi⟩
end
def el0(s:H4)(x:Ent):H4:={s with en:=s.en ++ [x]}
theorem lh0{x:Ent}{e:Nat}(h:e<s.en.length):gE (el0 s x) e=gE s e:=by
 unfold gE el0;simp only[List.getD_eq_getElem?_getD];rw[List.getElem?_append_left h]
theorem li0(s:H4)(x:Ent):gE (el0 s x) s.en.length=x:=by
 unfold gE el0;simp only[List.getD_eq_getElem?_getD];rw[List.getElem?_append_right (Nat.le_refl _)];simp
theorem j4.el0(h:j4 p m w s r)(hl:∀j e,e∈(s.st j).l->e<s.en.length){x:Ent}{b lm lt cn:Nat}{sa:Value}(H2:x.key.size <=1000000000000)(hlo:p.B <=b/\p.B <=lm/\p.B <=lt/\p.B <=cn)
  (hE:I0 w b #[.string x.key,.i (x.num:Nat),.p lm,.p cn] 127) (hM:I0 w lm #[.iface 242 (.p lt)] 187)
  (hL:I0 w lt #[.i (oW p.obj 2),.i (x.num:Nat),.bool x.held,.i 0] 244) (hC:I0 w cn #[.i (oW p.obj 3),.i (x.num:Nat),.p p.wb,.i x.Q3,sa] 191)
  (hn:¬SF p m s r b/\¬SF p m s r lt/\¬SF p m s r cn) :
  j4 p (cu0 m s.en.length b lm lt cn x.num) w (Sc.el0 s x) {r with ky:=P3 r.ky b x.key}:=by
 have hlen:(Sc.el0 s x).en.length=s.en.length+1:=by show(s.en ++ [x]).length=_;rw[List.length_append];rfl
 obtain⟨M,hM9⟩:∃M,M=cu0 m s.en.length b lm lt cn x.num:=⟨_,rfl⟩
 have X2:∀e,e≠s.en.length->eb M e=eb m e/\lmG M e=lmG m e/\ltG M e=ltG m e/\cnG M e=cnG m e:=fun e he=>by
  have h9:=ob0 m (b:=b) (lm:=lm) (lt:=lt) (cn:=cn) (nu:=x.num) he;unfold eb lmG ltG cnG;exact U521
 have heq:eb M s.en.length=b/\lmG M s.en.length=lm/\ltG M s.en.length=lt/\cnG M s.en.length=cn:=by
  have h9:=rh0 m s.en.length b lm lt cn x.num;unfold eb lmG ltG cnG;exact U521
 have Pu0:∀j,(s.st j).l.map (eb M)=(s.st j).l.map (eb m):=fun j=>List.map_congr_left fun e he=>(X2 e (Nat.ne_of_lt (hl j e he))).1;have hky:∀j b',b'∈(s.st j).l.map (eb m)->P3 r.ky b x.key b'=r.ky b':=fun j b' Z8=>by
  obtain⟨e,he,rfl⟩:=List.mem_map.1 Z8;exact B1 fun z=>hn.1 (z▸SF.eb (hl j e he))
 have hg1:∀k,M (9*k+1)=m (9*k+1):=fun k=>by rw[hM9];exact pf0 _ _ _ _ _ _ _ _ 1 (.inl rfl)
 have hg2:∀k,M (9*k+2)=m (9*k+2):=fun k=>by rw[hM9];exact pf0 _ _ _ _ _ _ _ _ 2 (.inr (.inl rfl))
 have hg7:∀k,M (9*k+7)=m (9*k+7):=fun k=>by rw[hM9];exact pf0 _ _ _ _ _ _ _ _ 7 (.inr (.inr (.inl rfl)))
 have hg8:∀k,M (9*k+8)=m (9*k+8):=fun k=>by rw[hM9];exact pf0 _ _ _ _ _ _ _ _ 8 (.inr (.inr (.inr rfl)))
 have hia:∀j v,iaG M j v=iaG m j v/\icG M j v=icG m j v:=fun j v=>⟨funext fun i=>by unfold iaG;rw[hg7],funext fun i=>by unfold icG;rw[hg8]⟩
 have hva:∀j v,va M j v=va m j v/\vc M j v=vc m j v:=fun j v=>by unfold va vc;rw[hg1,hg2];exact⟨rfl,rfl⟩
 rw[<- hM9];refine⟨h.lk,fun j hj=>?_,fun j hj=>?_,fun e he=>?_,fun e e' he j8 hee=>?_,fun e j he hj=>?_,fun j hj=>by rw[hg1,hg2];exact h.gv j hj,fun j i hj hi=>by rw[hg7,hg8];exact h.gi j i hj hi,fun e he=>?_,fun j v hj hv=>by rw[hg1,hg2];exact⟨(h.fv j v hj hv).1,(h.fv j v hj hv).2.1,fun i hi=>by rw[hg7,hg8];exact(h.fv j v hj hv).2.2 i hi⟩,h.ro⟩
 ·unfold clC;rw[(hva _ _).1,(hva _ _).2];exact h.cl j hj
 ·show Bk w p.B (s.st j).V0 _ _ (at_ (P3 r.ky b x.key) (s.st j).V0 ((s.st j).l.map _)) _ _;have hI:=hia j (s.st j).R3;show Bk w p.B (s.st j).V0 _ _ (at_ (P3 r.ky b x.key) (s.st j).V0 ((s.st j).l.map _)) (iaG M j (s.st j).R3) (icG M j (s.st j).R3);rw[(hva _ _).1,(hva _ _).2,Pu0,oc0 (hky j),hI.1,hI.2];exact h.bk j hj
 ·rw[hlen]at he;by_cases hen:e=s.en.length
  ·subst hen;obtain⟨q1,q2,q3,q4⟩:=heq;have h9:=rh0 m s.en.length b lm lt cn x.num;refine⟨by rw[hM9,h9.1,h9.2.1,h9.2.2.1,h9.2.2.2.1];omega,by rw[hM9,h9.2.2.2.2,li0],?_,?_,?_,?_,?_,?_,⟨sa,?_⟩⟩
   ·rw[q1,li0];exact I1
   ·rw[li0];exact H2
   ·rw[q1,q2,q3,q4];exact hlo
   ·unfold enC;rw[q1,q2,q4,li0];exact hE
   ·rw[q2,q3];exact hM
   ·unfold ltC;rw[q3,li0];exact hL
   ·unfold cnC;rw[q4,li0];exact hC
  ·have j8:e<s.en.length:=by omega
   have hE':=h.en e j8;obtain⟨q1,q2,q3,q4⟩:=X2 e hen;have h9:=ob0 m (b:=b) (lm:=lm) (lt:=lt) (cn:=cn) (nu:=x.num) hen;refine⟨by rw[hM9,h9.1,h9.2.1,h9.2.2.1,h9.2.2.2.1];exact hE'.g,by rw[hM9,h9.2.2.2.2,lh0 j8];exact hE'.gn,?_,by rw[lh0 j8];exact hE'.sz,?_,?_,?_,?_,?_⟩
   ·rw[q1,lh0 j8,<- hE'.ky];exact B1 fun z=>hn.1 (z▸SF.eb j8)
   ·rw[q1,q2,q3,q4];exact hE'.lo
   ·unfold enC;rw[q1,q2,q4,lh0 j8];exact hE'.hE
   ·rw[q2,q3];exact hE'.hM
   ·unfold ltC;rw[q3,lh0 j8];exact hE'.hL
   ·unfold cnC;rw[q4,lh0 j8];exact hE'.hC
 ·rw[hlen]at he j8;by_cases h1:e=s.en.length
  ·subst h1;have h2:e'<s.en.length:=by omega
   obtain⟨q1,q2,q3,q4⟩:=heq;obtain⟨u1,u2,u3,u4⟩:=X2 e' (Ne.symm hee);rw[q1,q3,q4,u1,u3,u4];exact⟨fun z=>hn.1 (z▸SF.eb h2),fun z=>hn.2.1 (z▸SF.lt h2),fun z=>hn.2.2 (z▸SF.cn h2)⟩
  ·have h1':e<s.en.length:=by omega
   obtain⟨u1,u2,u3,u4⟩:=X2 e h1;by_cases h2:e'=s.en.length
   ·subst h2;obtain⟨q1,q2,q3,q4⟩:=heq;rw[q1,q3,q4,u1,u3,u4];exact⟨fun z=>hn.1 (z▸SF.eb h1'),fun z=>hn.2.1 (z▸SF.lt h1'),fun z=>hn.2.2 (z▸SF.cn h1')⟩
   ·obtain⟨q1,q2,q3,q4⟩:=X2 e' h2;rw[q1,q3,q4,u1,u3,u4];exact h.inj e e' h1' Uo hee
 ·rw[hlen]at he;by_cases h1:e=s.en.length
  ·subst h1;rw[heq.2.2.1];exact fun z=>hn.2.1 (z▸SF.lk hj)
  ·rw[(X2 e h1).2.2.1];exact h.sep e j Uo hj
 ·rw[hlen]at he;have h9:=ob0 m (b:=b) (lm:=lm) (lt:=lt) (cn:=cn) (nu:=x.num) (e:=s.en.length) (e':=e) Uo;rw[hM9,h9.1,h9.2.1,h9.2.2.1,h9.2.2.2.1,h9.2.2.2.2];exact h.fe e Uo
end
end Go.Vy.Sc
end
section
namespace Go.Vy
open Go Go.Conc Go.Yc Go.RowKit
open Go.Vc Go.Wg
def Ef0(P:Program)(fr:Frame)(w:World):Ending->Prop
 | .returned v=>fr.mode= .returning/\fr.defers=[]/\fr.kind= .deferred/\∃fn,P.funcs[fr.fn]? =some fn/\ca0 P fn fr.tmps w v
 | .panicked chain=>fr.mode= .panicking chain/\fr.defers=[]/\fr.catches P=false
 | .outgrown=>False
def CallsD(P:Program)[Ctx P](f:FuncId)(args:Array Value)(w:World)(R:Ending->World->Prop):Prop:=
 ∀Z,Ctx.Zs P Z->∀cs,(∀e w' fr,R e w'->fr.fn=f->Ef0 P fr w' e->Z (G fr cs) w')->Z (G (Frame.enter P f args .deferred) cs) w
theorem CallsD.mono{P:Program}[Ctx P]{f:FuncId}{args:Array Value}{w:World}{R R':Ending->World->Prop}(h:CallsD P f args w R)(hr:∀e w',R e w'->R' e w'):CallsD P f args w R':=
 fun Z hZ cs hk=>h Z hZ cs fun e w' fr he hf hl=>hk e w' fr (hr e w' he) hf hl
section
variable{P:Program}[Ctx P]
section
variable{f:FuncId}{fn:Func}{c:Code}{args:Array Value}{w:World}{R:Ending->World->Prop}
theorem callsD_of_wp(hf:P.funcs[f]? =some fn)(hb:fn.body=some c)
  (h:cwp P c (bodyPost P fn R) {tmps:=args++Array.replicate (fn.ntmps-args.size) undef,defers:=[]} w):CallsD P f args w R:=by
 intro Z hZ cs hk;rw[enter_atD args hf hb];refine h Z hZ (baseD f) [] cs (bkd f) fun e a' w' he=>?_;have db0:∀a' w' todo,(a'.defers=[]/\∃v,ca0 P fn a'.tmps w' v/\R (.returned v) w')->Z (G {(baseD f).at a' todo with mode:=.returning} cs) w':=fun a' w' todo ⟨hd,v,hr,hR⟩=>
  hk _ _ _ hR rfl ⟨rfl,hd,rfl,fn,hf,hr⟩
 cases e with
 |normal=>exact(Ctx.cl Z hZ).ctl rfl rfl (fun _=>stepG_end) (db0 a' w' [] he)
 |ret=>exact fun todo=>db0 a' w' todo he
 |panic chain=>exact fun todo=>hk _ _ _ he.2 rfl ⟨rfl,he.1,by simp[Frame.catches,Frame.at,baseD,hf]⟩
 |exit id=>exact he.elim
 |goto l=>exact he.elim
 |outgrown=>exact he.elim
theorem CallsD.B6{n:Nat}(hf:P.funcs[f]? =some fn)(hb:fn.body=some c)(hn:args.size+(fn.ntmps-args.size)=n)
  (h:W P n c (gt1 P fn R) (Vc.cw0 args) w):CallsD P f args w R:=by
 refine callsD_of_wp hf hb (wp_mono (h _ ⟨?_,rfl,?_⟩) ?_)
 ·simp[hn]
 ·intro t;simp only[Vc.cw0,Array.getD_eq_getD_getElem?,Array.getElem?_append];split
  ·rfl
  ·rename_i ht;rw[Array.getElem?_eq_none (by omega:args.size <=t)];simp only[Array.getElem?_replicate];split <;> rfl
 ·rintro x a w' ⟨e',r,hx⟩;cases x with
  |panic ch=>exact⟨r.defers,hx⟩
  |normal=>obtain⟨_,v,hv,hR⟩:=hx;exact⟨r.defers,v,hv a.tmps r.get,hR⟩
  |ret=>obtain⟨_,v,hv,hR⟩:=hx;exact⟨r.defers,v,hv a.tmps r.get,hR⟩
  |exit id=>obtain⟨hx,_⟩:=hx;rcases hx with hx|hx <;> cases hx
  |goto l=>obtain⟨hx,_⟩:=hx;rcases hx with hx|hx <;> cases hx
  |outgrown=>obtain⟨hx,_⟩:=hx;rcases hx with hx|hx <;> cases hx
end
end
def cw1(m:FrameMode):Prop:=m= .returning\/∃v O4,m= .panicking ({v,recovered:=false} :: O4)
section
variable{P:Program}{main:Bool}{Z:Goroutine->World->Prop}{fr c:Frame}{cs:List Frame}{w:World}
theorem js0(hZ:Cl P main Z){v:Value}(h:Ef0 P fr w (.returned v))(hc:cw1 c.mode)(hk:Z (G c cs) w):Z (G fr (c::cs)) w:=by
 obtain⟨hm,hd,hn,fn,hf,hr⟩:=h;refine hZ.own _ _ rfl fun τ d=>⟨G c cs,G2 w τ d,w.drawn,⟨rfl,fun ρ x hx=>?_⟩,hk⟩
 obtain⟨x',es,L3,N5,hev⟩:=hr τ d ρ x hx;rw[Sem.runT_eq]at L3;obtain⟨h1,h2⟩:=Prod.mk.inj L3;refine⟨Evo.refl _,x',seen P fr.fn es ++ #[],?_,N5,fun e he=>?_⟩
 ·rcases hc with hc|⟨v',O4,hc⟩
  ·simp[G,stepG,unwind,doReturn,hm,hd,hn,hf,h1,h2,hc,GStep.after]
  ·simp[G,stepG,unwind,doReturn,hm,hd,hn,hf,h1,h2,hc,GStep.after]
 ·have j8:e∈seen P fr.fn es:=by simpa using he
  exact hev e (mem_seen j8)
theorem jt0(hZ:Cl P main Z){chain:List PanicEntry}(h:Ef0 P fr w (.panicked chain))(hk:Z (G (c.raise chain) cs) w):Z (G fr (c::cs)) w:=by
 obtain⟨hm,hd,hc⟩:=h;exact hZ.ctl rfl rfl (fun w=>by simp[G,stepG,unwind,hm,hd,hc]) hk
end
def ZP[K3](Z:Goroutine->World->Prop)(n:Nat)(b:Frame)(cs:List Frame)(ch:List PanicEntry)(e:Env)(w:World):Prop:=∀todo,∀a,Rep n a e->Z (G {b.at a todo with mode:=.panicking ch} cs) w
def zx1[K3](Z:Goroutine->World->Prop)(n:Nat)(b:Frame)(cs:List Frame)(k:List Item):Exit->Env->World->Prop
 | .normal,e,w=>ZA Z n b cs e k w
 | .ret,e,w=>ZR Z n b cs e w
 | .panic ch,e,w=>ZP Z n b cs ch e w
 |_,_,_=>False
section
variable{P:Program}[Ctx P]{Z:Goroutine->World->Prop}{b:Frame}{k:List Item}{cs:List Frame}{n:Nat}{e:Env}{w:World}
theorem ZA.code[K3](hZ:Ctx.Zs P Z)(hb:b.kind≠.early){c:Code}(h:Vy.W P n c (zx1 Z n b cs k) e w):ZA Z n b cs e (.code c::k) w:=by
 intro a ha;refine h a ha Z hZ b k cs hb fun x a' w' hx=>?_;obtain⟨e',r,hq⟩:=hx;cases x with
 |normal=>exact hq a' r
 |ret=>exact fun todo=>hq todo a' r
 |panic ch=>exact fun todo=>hq todo a' r
 |exit _=>exact hq.elim
 |goto _=>exact hq.elim
 |outgrown=>exact hq.elim
end
section
variable{P:Program}{b:Frame}{k:List Item}{cs:List Frame}{ops:Array Oper}
theorem Hd0{main:Bool}{a:Act}{w:World}{i:Nat}{rest:List Nat}{dst:Option Nat}{ty:TypeId}{ps:String}{af:Array Edge}{x:Operand}{asx:Array Operand}{ats:Array TypeId}{vs bs caps:Array Value}{f:FuncId}(ho:ops[i]? =some ⟨dst,.defer {callee:=.value x,args:=asx,argTypes:=ats},ty,ps,af,none⟩)(hk:b.kind≠.early)(hro:b.roundOf=none)(hx:a.eval x= .func (.func f) bs caps)(hv:asx.map a.eval=vs):stepG P main (G (b.at a (.inRegion ops (i::rest)::k)) cs) w= .go (G (b.at (Act.put ⟨a.tmps,{target:=.fn (.func f) caps,args:=bs++vs} :: a.defers⟩ dst undef) (.inRegion ops rest::k)) cs) w #[]:=by
 have hr:(execOp a.eval ⟨dst,.defer {callee:=.value x,args:=asx,argTypes:=ats},ty,ps,af,none⟩).run P w= .ok (.defer {target:=.fn (.func f) caps,args:=bs++vs}) w:=by
  simp[execOp,resolve,Deferred.ofValue,hx,hv]
 have he:(execOp a.eval ⟨dst,.defer {callee:=.value x,args:=asx,argTypes:=ats},ty,ps,af,none⟩).events P w #[]=#[]:=by
  simp[execOp,resolve,Deferred.ofValue,hx,hv]
 have eo0:(b.at ⟨a.tmps,{target:=.fn (.func f) caps,args:=bs++vs} :: a.defers⟩ (.inRegion ops (i::rest)::k)).finish undef=b.at (Act.put ⟨a.tmps,{target:=.fn (.func f) caps,args:=bs++vs} :: a.defers⟩ dst undef) (.inRegion ops rest::k):=by rw[Frame.finish_at,ho];rfl
 have hk':(b.kind==CallKind.early)=false:=by simpa using hk
 have _hro:=hro;rw[stepG_oper ho rfl,<- eo0];simp[stepG.apply,hr,he,G,Frame.at,hk',GStep.after,seen_none]
end
section
variable{P:Program}[Ctx P]{Z:Goroutine->World->Prop}{b:Frame}{k:List Item}{cs:List Frame}{n:Nat}{e:Env}{w:World}{ops:Array Oper}
@[reducible] def _root_.Go.Vc.K3.push(D:K3)(d:Deferred):K3:=⟨d::D.ds⟩
theorem ZA.mh1{D:K3}(hZ:Ctx.Zs P Z)(hb:b.kind≠.early)(hro:b.roundOf=none){i:Nat}{rest:List Nat}{ty:TypeId}{ps:String}{af:Array Edge}{x:Operand}{asx:Array Operand}{ats:Array TypeId}{vs bs caps:Array Value}{f:FuncId}(ho:ops[i]? =some ⟨none,.defer {callee:=.value x,args:=asx,argTypes:=ats},ty,ps,af,none⟩)(hx:ev e x= .func (.func f) bs caps)(hv:asx.map (ev e)=vs)
  (h:@ZA (D.push {target:=.fn (.func f) caps,args:=bs++vs}) Z n b cs e (.inRegion ops rest::k) w):@ZA D Z n b cs e (.inRegion ops (i::rest)::k) w:=by
 intro a ha;refine(Ctx.cl Z hZ).ctl rfl rfl (fun w=>Hd0 (f:=f) (bs:=bs) (caps:=caps) (vs:=vs) ho hb hro (ha.eval▸hx) (ha.eval▸hv)) ?_;obtain⟨h1,h2,h3⟩:=ha;have h2:a.defers=D.ds:=h2;refine h (Act.put ⟨a.tmps,{target:=.fn (.func f) caps,args:=bs++vs} :: a.defers⟩ none undef) (@Rep.mk (D.push _) n _ e h1 ?_ h3);show _::a.defers=_::D.ds;rw[h2]
end
section
variable{P:Program}[Ctx P]{Z:Goroutine->World->Prop}{b:Frame}{cs:List Frame}{n:Nat}{e:Env}{w:World}{f:FuncId}{fn:Func}{caps vs:Array Value}{R:Ending->World->Prop}{body:Code}{ch:List PanicEntry}
theorem ZR.defer{D:K3}(hZ:Ctx.Zs P Z)(hf:P.funcs[f]? =some fn)(J4:Ue fn)(hbd:fn.body=some body)(hc:CallsD P f (vs++caps) w R)(hr:∀v w',R (.returned v) w'->@ZR D Z n b cs e w')(hp:∀ch w',R (.panicked ch) w'->@ZP D Z n b cs ch e w')(ho:∀w',¬R .outgrown w'):@ZR (D.push {target:=.fn (.func f) caps,args:=vs}) Z n b cs e w:=by
 intro todo a ha;obtain⟨h1,h2,h3⟩:=ha;have h2:a.defers={target:=.fn (.func f) caps,args:=vs} :: D.ds:=h2;refine(Ctx.cl Z hZ).ctl rfl rfl (fun w=>fo0 (f:=f) (fn:=fn) (caps:=caps) (args:=vs) (ds:=D.ds) (md:=.returning) (by simp) h2 hf J4 hbd) ?_;rw[<- enter_atD (vs++caps) hf hbd];refine hc Z hZ _ fun x w' fr hx _ hl=>?_;have ha':@Rep D n ⟨a.tmps,D.ds⟩ e:=⟨h1,rfl,h3⟩
 cases x with
 |returned v=>exact js0 (Ctx.cl Z hZ) hl (.inl rfl) (hr v w' hx todo _ ha')
 |panicked ch=>exact jt0 (Ctx.cl Z hZ) hl (hp ch w' hx todo _ ha')
 |outgrown=>exact absurd hx (ho _)
theorem ZP.defer{D:K3}(hZ:Ctx.Zs P Z)(hf:P.funcs[f]? =some fn)(J4:Ue fn)(hbd:fn.body=some body)(u7:A6 ch)(hc:CallsD P f (vs++caps) w R)(hr:∀v w',R (.returned v) w'->@ZP D Z n b cs ch e w')(hp:∀ch' w',R (.panicked ch') w'->@ZP D Z n b cs (ch'++ch) e w')(ho:∀w',¬R .outgrown w'):@ZP (D.push {target:=.fn (.func f) caps,args:=vs}) Z n b cs ch e w:=by
 intro todo a ha;obtain⟨h1,h2,h3⟩:=ha;have h2:a.defers={target:=.fn (.func f) caps,args:=vs} :: D.ds:=h2;refine(Ctx.cl Z hZ).ctl rfl rfl (fun w=>fo0 (f:=f) (fn:=fn) (caps:=caps) (args:=vs) (ds:=D.ds) (md:=.panicking ch) (by simp) h2 hf J4 hbd) ?_;rw[<- enter_atD (vs++caps) hf hbd];refine hc Z hZ _ fun x w' fr hx _ hl=>?_;have ha':@Rep D n ⟨a.tmps,D.ds⟩ e:=⟨h1,rfl,h3⟩
 cases x with
 |returned v=>
  obtain⟨v0,O4,rfl,_⟩:=u7;exact js0 (Ctx.cl Z hZ) hl (.inr ⟨v0,O4,rfl⟩) (hr v w' hx todo _ ha')
 |panicked ch'=>exact jt0 (Ctx.cl Z hZ) hl (hp ch' w' hx todo _ ha')
 |outgrown=>exact absurd hx (ho _)
end
section
variable{P:Program}{Z:Goroutine->World->Prop}{b:Frame}{cs:List Frame}{n:Nat}{e:Env}{w:World}{f:FuncId}{fn:Func}{R:Ending->World->Prop}{ch:List PanicEntry}
theorem ZR.leave(hb:b=base f)(hf:P.funcs[f]? =some fn)(hk:∀x w' fr,R x w'->fr.fn=f->Leaves P fr w' x->Z (G fr cs) w')(h:ends P fn (fun v w=>R (.returned v) w) .ret e w):ZR Z n b cs e w:=by
 intro todo a ha;subst hb;obtain⟨_,v,hv,hR⟩:=h;exact hk _ _ _ hR rfl ⟨rfl,ha.defers,rfl,fn,hf,hv a.tmps ha.get⟩
theorem ZP.leave(hb:b=base f)(hf:P.funcs[f]? =some fn)(hk:∀x w' fr,R x w'->fr.fn=f->Leaves P fr w' x->Z (G fr cs) w')(h:R (.panicked ch) w):ZP Z n b cs ch e w:=by
 intro todo a ha;subst hb;exact hk _ _ _ h rfl ⟨rfl,ha.defers,by simp[Frame.catches,Frame.at,base,hf]⟩
end
section
variable{P:Program}[Ctx P]{Z:Goroutine->World->Prop}{cs:List Frame}{n:Nat}{w:World}{f:FuncId}{fn:Func}{R:Ending->World->Prop}{body:Code}
theorem X8{c:Code}{args:Array Value}{n:Nat}(hf:P.funcs[f]? =some fn)(hb:fn.body=some c)(hn:args.size+(fn.ntmps-args.size)=n)
  (h:∀Z,Ctx.Zs P Z->∀cs,(∀x w' fr,R x w'->fr.fn=f->Leaves P fr w' x->Z (G fr cs) w')->ZA Z n (base f) cs (Vc.cw0 args) [.code c] w):Calls P f args w R:=by
 intro Z hZ cs hk;rw[enter_at args hf hb];exact h Z hZ cs hk _ (M8 args _ hn)
end
theorem A6.app{ch ch':List PanicEntry}(h:A6 ch)(h':A6 ch'):A6 (ch'++ch):=by
 obtain⟨v,O4,rfl,ho⟩:=h;obtain⟨v',mi1,rfl,ho'⟩:=h';refine⟨v',mi1 ++ {v,recovered:=false} :: O4,rfl,?_⟩;have:∀l:List PanicEntry,l.dropWhile (!·.goexit)=[]->∀l2:List PanicEntry,l2.dropWhile (!·.goexit)=[]->(l++l2).dropWhile (!·.goexit)=[]:=by
  intro l h l2 h2;rw[List.dropWhile_append,h];simpa using h2
 exact this _ ho' _ (by simpa [List.dropWhile]using ho)
end Go.Vy
end
section
namespace Go.Vy.Sc
open Go Go.Conc Go.Yc Go.RowKit Go.Proofs Go.Proofs.YtinppmaojmdmhaaGreat Tryz
open Go.Vc Go.Wg
def da0(w0:World):Ending->World->Prop
 | .panicked ch,u=>A6 ch/\kl0 w0 u/\u.tape=w0.tape
 |_,_=>False
section
variable{w w0 u:World}{K:Cfg prog}{K4:K.L}{m:Gm}{F:Nat->Prop}
theorem kl0.trans{w w1 w2:World}(h:kl0 w w1)(h':kl0 w1 w2):kl0 w w2:=⟨h'.os.trans h.os,h'.output.trans h.output,Nat.le_trans h.size h'.size,fun b hb=>(h'.block b (Nat.lt_of_lt_of_le hb h.size)).trans (h.block b hb)⟩
theorem kl0.of{w':World}(h:Below w.heap.size w w'):kl0 w w':=⟨h.os,h.output,h.size,h.block⟩
theorem da0.down{e:Ending}(hb:Below w0.heap.size w0 w)(h:da0 w e u):da0 w0 e u:=by
 cases e with
 |panicked ch=>exact⟨h.1,kl0.trans (kl0.of hb) h.2.1,h.2.2.trans hb.tape⟩
 |returned v=>exact h.elim
 |outgrown=>exact h.elim
theorem o9.grow(hK:KOk K){u':World}(h:o9 K w0 u)(hg:kl0 u u')(ht:u'.tape=u.tape):o9 K w0 u':=by
 obtain⟨F',hi⟩:=h.inv;refine⟨by rw[J3 ht];exact h.g2,⟨F',?_⟩,hg.os.trans h.os,hg.output.trans h.output⟩;rw[J3 ht,df0 ht];exact hK.loc _ _ _ _ _ hi fun b hb=>hg.block b (hK.vis _ _ _ _ hi b hb).1
theorem cx1(x0:Int)(x1:Int)(x2:Int):prog.built 65 [(0,.i x0),(1,.i x1),(2,.i x2)]=some #[.i x0,.i x1,.i x2]:=by kernel_rfl
theorem He0(hK:KOk K){o n ki:Int}{rd df:Value}(w0:World)(h2:gh w0 2=1):@Calls prog (J0 K) 70 #[.agg #[.i o,.i n],.p K.ptr,.i ki,rd,df] w0 (da0 w0):=by
 letI:Ctx prog:=J0 K;refine Calls.B6 (n:=20) func70 rfl rfl<|U339 ?_;intro hb w b5 F5;refine U41 ?_;intro lt5 hb;have K2:=F5.blk;refine U79 ?_;refine U18 ?_;refine U278 ?_;refine U279 ?_;refine L.va (P2 (parts:=[(0,.tmp 11),(1,.tmp 13),(2,.tmp 15)]) rfl (cx1 ki o n))<|U215 ?_;refine L.Y2 rfl (fe0 rfl rfl rfl rfl func126 rfl Tv0 rfl) (hK.step▸(@Calls.mono _ (J0 K) _ _ _ _ (da0 w) (Jf0 (K:=K) (w:=w) ((J3 hb.tape 2).trans h2) ⟨⟨ki,o,n⟩,rfl⟩) (fun e u he=>by cases e <;> exact he))) ?_ ?_ (fun _ h=>h)
 ·rintro v u hx;exact hx.elim
 ·rintro ch u hx;exact da0.down (e:=.panicked ch) hb hx
theorem Kq0(hK:KOk K)(sb:Nat)(obj num:Int)(h:Bool)(r:Int)(w0:World)(h2:gh w0 2=1)(hC:I0 w0 sb #[.i obj,.i num,.bool h,.i r] 244):@Calls prog (J0 K) 209 #[.p sb,.p K.ptr] w0 (da0 w0):=by
 letI:Ctx prog:=J0 K;refine Calls.B6 (n:=11) func209 rfl rfl<|U101 ?_;intro hb w b2 F2;refine U120 ?_;intro lt2 hb hC Y1;refine U148 ?_;refine L.Y2 rfl (o8 rfl rfl rfl rfl rfl func70 rfl qq0 rfl) (He0 hK w ((J3 hb.tape 2).trans h2)) ?_ ?_ (fun _ h=>h)
 ·rintro v u hx;exact hx.elim
 ·rintro ch u hx;exact da0.down (e:=.panicked ch) hb hx
theorem Hf0(hK:KOk K)(sb:Nat)(obj num:Int)(h:Bool)(r:Int)(mb:Nat)(w0:World)(h2:gh w0 2=1)(hM:I0 w0 mb #[.iface 242 (.p sb)] 160)(hC:I0 w0 sb #[.i obj,.i num,.bool h,.i r] 244):@CallsD prog (J0 K) 53 #[.p mb,.p K.ptr] w0 (da0 w0):=by
 letI:Ctx prog:=J0 K;refine CallsD.B6 (n:=12) func53 rfl rfl<|U2 ?_;intro hb;refine U119 ?_;refine L.Y2 rfl (ai0 rfl rfl oz0 ml0 func209 rfl Ty0) (Kq0 hK sb obj num h r _ h2 hC) ?_ ?_ (fun _ h=>h)
 ·rintro v u hx;exact hx.elim
 ·rintro ch u hx;exact hx
theorem Kr0(hK:KOk K)(sb:Nat)(obj num:Int)(h:Bool)(r:Int)(mb:Nat)(w0:World)(hT:K.Told w0 m F (.inl K4))(O2:K.stp K4=⟨2,obj,num⟩)(hrd:∀s,K.rdy K4 s=true)(hM:I0 w0 mb #[.iface 242 (.p sb)] 160)(hC:I0 w0 sb #[.i obj,.i num,.bool h,.i r] 244)(hla:∀u F',K.G6 w0 m F u F'->∃h r,I0 u sb #[.i obj,.i num,.bool h,.i r] 244):@CallsD prog (J0 K) 53 #[.p mb,.p K.ptr] w0 (o3 K w0 fun v u=>v= .tuple #[]/\∃u0 F' h r,Gn K w0 m F K4 u0 F'/\I0 u0 sb #[.i obj,.i num,.bool h,.i r] 244/\I0 u sb #[.i obj,.i num,.bool false,.i r] 244/\u0.grownBy u (some sb)/\u.tape=u0.tape):=by
 letI:Ctx prog:=J0 K;refine CallsD.B6 (n:=12) func53 rfl rfl<|U2 ?_;intro hb;refine U119 ?_;have hbL:=hb;refine L.Y2 rfl (ai0 rfl rfl oz0 ml0 func209 rfl Ty0) (Bo0 hK sb obj num h r w0 hT O2 hrd hC hla) ?_ ?_ (fun _ h=>h)
 ·rintro v u db0;obtain⟨rfl,db0⟩:=db0;exact U109
 ·rintro ch u ⟨u7,hh⟩;exact⟨u7,hh⟩
theorem Hg0(hK:KOk K)(sb:Nat)(obj num:Int)(h:Bool)(r:Int)(w0:World)(h2:gh w0 2=1)(hC:I0 w0 sb #[.i obj,.i num,.bool h,.i r] 244):@Calls prog (J0 K) 208 #[.p sb,.p K.ptr] w0 (da0 w0):=by
 letI:Ctx prog:=J0 K;refine Calls.B6 (n:=11) func208 rfl rfl<|U101 ?_;intro hb w b2 F2;refine U120 ?_;intro lt2 hb hC Y1;refine U148 ?_;refine L.Y2 rfl (o8 rfl rfl rfl rfl rfl func70 rfl qq0 rfl) (He0 hK w ((J3 hb.tape 2).trans h2)) ?_ ?_ (fun _ h=>h)
 ·rintro v u hx;exact hx.elim
 ·rintro ch u hx;exact da0.down (e:=.panicked ch) hb hx
theorem Eg0(hK:KOk K)(sb:Nat)(obj num:Int)(h:Bool)(r:Int)(mb:Nat)(w0:World)(h2:gh w0 2=1)(hM:I0 w0 mb #[.iface 242 (.p sb)] 160)(hC:I0 w0 sb #[.i obj,.i num,.bool h,.i r] 244):@CallsD prog (J0 K) 103 #[.p mb,.p K.ptr] w0 (da0 w0):=by
 letI:Ctx prog:=J0 K;refine CallsD.B6 (n:=12) func103 rfl rfl<|U2 ?_;intro hb;refine U119 ?_;refine L.Y2 rfl (ai0 rfl rfl tv0 qg0 func208 rfl fz1) (Hg0 hK sb obj num h r _ h2 hC) ?_ ?_ (fun _ h=>h)
 ·rintro v u hx;exact hx.elim
 ·rintro ch u hx;exact hx
theorem Hh0(hK:KOk K)(sb:Nat)(obj num:Int)(h:Bool)(r:Int)(mb:Nat)(w0:World)(hT:K.Told w0 m F (.inl K4))(O2:K.stp K4=⟨4,obj,num⟩)(hrd:∀s,K.rdy K4 s=true)(hM:I0 w0 mb #[.iface 242 (.p sb)] 160)(hC:I0 w0 sb #[.i obj,.i num,.bool h,.i r] 244)(hla:∀u F',K.G6 w0 m F u F'->∃h r,I0 u sb #[.i obj,.i num,.bool h,.i r] 244):@CallsD prog (J0 K) 103 #[.p mb,.p K.ptr] w0 (o3 K w0 fun v u=>v= .tuple #[]/\∃u0 F' h r,Gn K w0 m F K4 u0 F'/\I0 u0 sb #[.i obj,.i num,.bool h,.i r] 244/\I0 u sb #[.i obj,.i num,.bool h,.i (max 0 (IntKind.i64.wrap (r-1)))] 244/\u0.grownBy u (some sb)/\u.tape=u0.tape):=by
 letI:Ctx prog:=J0 K;refine CallsD.B6 (n:=12) func103 rfl rfl<|U2 ?_;intro hb;refine U119 ?_;have hbL:=hb;refine L.Y2 rfl (ai0 rfl rfl tv0 qg0 func208 rfl fz1) (Jy0 hK sb obj num h r w0 hT O2 hrd hC hla) ?_ ?_ (fun _ h=>h)
 ·rintro v u db0;obtain⟨rfl,db0⟩:=db0;exact U109
 ·rintro ch u ⟨u7,hh⟩;exact⟨u7,hh⟩
end
structure Ks0(K:Cfg prog)(w:World)(o:I6 K.S K.L)(k:Nat):Prop where
 on:gh w 2=0
 nts:gh w 1=k
 out:K.out (gh w 0)=o
 os:w.os=K.base.os
 output:w.output=K.base.output
section
variable{K:Cfg prog}{w:World}{o:I6 K.S K.L}{k:Nat}
theorem Ks0.to{w':World}(h:Ks0 K w o k)(ht:w'.tape=w.tape)(ho:w'.os=w.os)(ho2:w'.output=w.output):Ks0 K w' o k:=
 ⟨by rw[J3 ht];exact h.on,by rw[J3 ht];exact h.nts,by rw[J3 ht];exact h.out,ho.trans h.os,ho2.trans h.output⟩
theorem Ks0.ko0{F:Nat->Prop}{m:Gm}{f:K.L ⊕ Nat}(h:Ks0 K w o k)(hk:k=o.nts.length)(hf:o.X4=f)(hm:K.gu (gm w) m)(hi:K.Inv o.s m w F):K.Told w m F f:=
 ⟨h.on,by rw[h.out];exact hf,by rw[h.nts,h.out];exact hk,by rw[h.out];exact hi,hm,h.os,h.output⟩
theorem Rs0{Y:Sys}:∀q,Y.Reach q->q.ft.length <=Y.m:=
 Sys.ind (fun q=>q.ft.length <=Y.m) (Nat.zero_le _) (fun q _ hl=>by
  show(Y.bgn q).ft.length <=_;unfold Sys.bgn;split <;> simp <;> omega) fun q i l hq _ _ _=>by rw[Sys.Gd0];exact hq
end
noncomputable abbrev B3(p:C5)(fb:Nat->FuncId)(q:PR (C1 p))(I2:World)(i cb:Nat)(top:List Frame):Cfg prog:=(C1 p).cfg fb q I2 i cb top
abbrev xp0(p:C5):Nat->Nat:=fun i=>(p.bo i).length
structure SAt(p:C5)(fb:Nat->FuncId)(q:PR (C1 p))(I2:World)(i cb:Nat)(top:List Frame)(m:Gm)(w:World)(o:I6 H4 Lb)(k:Nat)(r:F6):Prop where
 ok:C6 p
 im:i<p.m
 mem:j4 p m w o.s r
 gu:LeG (gm w) m
 c:Ks0 (B3 p fb q I2 i cb top) w o k
 so:SOk p.n p.m (xp0 p) o.s
 K4:∀b,o.X4= .inl b->LOk p.n (p.bo i) i o.s b
structure Prv(N:Nat)(w:World)(F:Nat->Prop)(u:World)(F':Nat->Prop):Prop where
 size:w.heap.size <=u.heap.size
 j0:∀b,b<N->b<w.heap.size->w.heap[b]? ≠some nothing->¬F b->u.heap[b]? =w.heap[b]?/\¬F' b
 os:u.os=w.os
 output:u.output=w.output
section
variable{N:Nat}{w u:World}{F F1:Nat->Prop}
theorem Prv.trans{N:Nat}{w u v:World}{F F1 F2:Nat->Prop}(h:Prv N w F u F1)(h':Prv N u F1 v F2):Prv N w F v F2:=
 ⟨Nat.le_trans h.size h'.size,fun b hN hb hn hF=>by
  obtain⟨a,c⟩:=h.j0 b hN hb hn hF;obtain⟨a',c'⟩:=h'.j0 b hN (Nat.lt_of_lt_of_le hb h.size) (by rw[a];exact hn) c;exact⟨a'.trans a,c'⟩,h'.os.trans h.os,h'.output.trans h.output⟩
theorem Prv.down{N':Nat}(h:Prv N w F u F1)(hN:N' <=N):Prv N' w F u F1:=⟨h.size,fun b hb=>h.j0 b Uo,h.os,h.output⟩
theorem Prv.blk(h:Prv N w F u F1){b:Nat}{cs:Array Value}{T:TypeId}(hB:I0 w b cs T)(h0:0<cs.size)(hN:b<N)(hF:¬F b):I0 u b cs T/\¬F1 b:=by
 have hB':P1 w b cs T (0,0):=S3 hB;have:=h.j0 b hN hB'.lt (M9 hB' h0) hF;exact⟨this.1.trans hB',this.2⟩
end
section
variable{p:C5}{fb:Nat->FuncId}{q:PR (C1 p)}{I2:World}{i cb:Nat}{top:List Frame}{m m':Gm}{w w' u:World}{o:I6 H4 Lb}{k:Nat}{r:F6}{b:Lb}
theorem SAt.j0(h:SAt p fb q I2 i cb top m w o k r)(hb:Below w.heap.size w w'):SAt p fb q I2 i cb top m w' o k r:=
 ⟨h.ok,h.im,h.mem.congr fun b hF=>hb.block b (h.mem.vis h.ok hF).1,by rw[df0 hb.tape];exact h.gu,h.c.to hb.tape hb.os hb.output,h.so,h.K4⟩
theorem SAt.H6(h:SAt p fb q I2 i cb top m w o k r){b:Nat}(hg:w.grownBy w' (some b))(hn:¬SF p m o.s r b):SAt p fb q I2 i cb top m w' o k r:=
 ⟨h.ok,h.im,h.mem.congr fun k hF=>hg.block k (h.mem.vis h.ok hF).1 fun e=>hn (by cases e;exact hF),by rw[df0 hg.tape];exact h.gu,h.c.to hg.tape hg.os hg.output,h.so,h.K4⟩
theorem SAt.fresh(h:SAt p fb q I2 i cb top m w o k r){b:Nat}(hb:w.heap.size <=b):¬SF p m o.s r b:=fun z=>by have:=(h.mem.vis h.ok z).1;omega
theorem SAt.ko0(h:SAt p fb q I2 i cb top m w o k r)(hk:k=o.nts.length)(hf:o.X4= .inl b):(B3 p fb q I2 i cb top).Told w m (SF p m o.s r) (.inl b):=h.c.ko0 hk hf (fun _ _=>h.gu) ⟨r,rfl,h.mem⟩
theorem SAt.kok(h:SAt p fb q I2 i cb top m w o k r):KOk (B3 p fb q I2 i cb top):=Sys.kok (xk0 h.ok)
theorem by0{F F':Nat->Prop}(hg:(B3 p fb q I2 i cb top).G6 w m F u F'):∃r1,F'=SF p (gm u) ((C1 p).sAt q (gh u 0)) r1/\j4 p (gm u) u ((C1 p).sAt q (gh u 0)) r1/\LeG m (gm u):=by
 obtain⟨r1,h1,h2⟩:=hg.inv;exact⟨r1,h1,h2,hg.le⟩
theorem j4.dom{s:H4}(h:j4 p m w s r){e:Nat}(hx:m (9*e)≠0):e<s.en.length:=by
 rcases Nat.lt_or_ge e s.en.length with z|z
 ·exact z
 ·exact absurd (h.fe e z).1 hx
theorem w6{s s':H4}{r':F6}(h:j4 p m w s r)(h':j4 p m' u s' r')(hl:LeG m m'){e:Nat}(he:e<s.en.length):e<s'.en.length/\eb m' e=eb m e/\lmG m' e=lmG m e/\ltG m' e=ltG m e/\cnG m' e=cnG m e/\(gE s' e).num=(gE s e).num:=by
 have hE:=h.en e he;have h0:=hE.g;have e1:=hl _ h0.1;have e2:=hl _ h0.2.1;have e3:=hl _ h0.2.2.1;have e4:=hl _ h0.2.2.2;have e5:=hl (9*e+6) (by rw[hE.gn];omega);have hd:=h'.dom (e:=e) (by rw[e1];exact h0.1);refine⟨hd,by unfold eb;rw[e1],by unfold lmG;rw[e2],by unfold ltG;rw[e3],by unfold cnG;rw[e4],?_⟩;have e6:=(h'.en e hd).gn;rw[e5,hE.gn]at e6;omega
structure cy1(p:C5)(fb:Nat->FuncId)(q:PR (C1 p))(I2:World)(i cb:Nat)(top:List Frame)(m:Gm)(u:World)(F':Nat->Prop)(b:Lb)(s1:H4)(r1:F6):Prop where
 F:F'=SF p (gm u) s1 r1
 mem:j4 p (gm u) u s1 r1
 le:LeG m (gm u)
 c:Ks0 (B3 p fb q I2 i cb top) u (L7 p.n (p.bo i) i b s1) 0
 so:SOk p.n p.m (xp0 p) s1
 K4:LOk p.n (p.bo i) i s1 b
 rd:∀j,(s1.st j).k6 <=p.m
 rdy:H9 b s1=true
theorem SAt.jy0(h:SAt p fb q I2 i cb top m w o k r){F F':Nat->Prop}(hg:(B3 p fb q I2 i cb top).Goes w m F b u F'):∃r1,cy1 p fb q I2 i cb top m u F' b ((C1 p).sAt q (gh u 0)) r1:=by
 obtain⟨r1,h1,h2,h3⟩:=by0 hg.B4;obtain⟨ht,p',hR,_,e1,e2⟩:=hg.at_
 have hT:=oa0 h.ok.n.1 p' hR;have hl:=Rs0 p' hR;rw[e1]at hT;refine⟨r1,h1,h2,h3,⟨hg.on,hg.nts,hg.out,hg.B4.os.trans h.c.os,hg.B4.output.trans h.c.output⟩,hT.so,hT.K4 i b e2,fun j=>?_,hg.rdy⟩;rw[hT.rd j];exact Nat.le_trans List.countP_le_length hl
theorem SOk.uf0(hp:C6 p){s:H4}(h:SOk p.n p.m (xp0 p) s):s.en.length <=200:=by
 rw[h.en];have key:∀m,bh0 s.mn m <=bh0 (fun i=>(p.bo i).length) m:=fun m=>by
  induction m with
  |zero=>exact Nat.le_refl _
  |succ m ih=>rw[W8,W8];have:=h.mn m;exact Nat.add_le_add ih this
 exact Nat.le_trans (key _) hp.tot
theorem SAt.next(h:SAt p fb q I2 i cb top m w o k r){F':Nat->Prop}{s1:H4}{r1 r2:F6}{u':World}(hw:cy1 p fb q I2 i cb top m u F' b s1 r1)(hM:j4 p m' u' (sT p.n i b s1) r2)(hle:LeG (gm u) m')(ht:u'.tape=u.tape)(ho:u'.os=u.os)(hp:u'.output=u.output):SAt p fb q I2 i cb top m' u' (L7 p.n (p.bo i) i b s1) 0 r2:=by
 refine⟨h.ok,h.im,by rw[Ha0];exact hM,by rw[df0 ht];exact hle,hw.c.to ht ho hp,by rw[Ha0];exact hw.so.sT hw.K4 h.im (Nat.le_refl _),fun b' Z8=>?_⟩;have hX:=ue0 h.ok.n.1 hw.K4 hw.so;rw[Ha0];exact hX.ok b' Z8
def qu0(p:C5)(fb:Nat->FuncId)(q:PR (C1 p))(I2:World)(i cb:Nat)(top:List Frame)(b:Lb)(N:Nat)(m:Gm)(w:World)(s:H4)(r:F6)(A:Value->H4->Gm->F6->World->Prop):Ending->World->Prop:=
 o3 (B3 p fb q I2 i cb top) w fun v u=>∃s1 m1 r1,SAt p fb q I2 i cb top m1 u (L7 p.n (p.bo i) i b s1) 0 r1/\LeG m m1/\Prv N w (SF p m s r) u (SF p m1 (sT p.n i b s1) r1)/\LOk p.n (p.bo i) i s1 b/\SOk p.n p.m (xp0 p) s1/\A v s1 m1 r1 u
section
variable{F':Nat->Prop}{s1 s:H4}{r1:F6}{c n:Nat}
theorem SAt.wrote(h:SAt p fb q I2 i cb top m w o k r){u0:World}{x y:Nat}(hg:Gn (B3 p fb q I2 i cb top) w m (SF p m o.s r) b u0 F')(hw:cy1 p fb q I2 i cb top m u0 F' b s1 r1)(hm:bf0 u0 u x y)(hx:F' x)(hy:y=x\/(w.heap.size <=y/\¬F' y))(hM:j4 p (gm u0) u (sT p.n i b s1) r1)(hF:∀c,SF p (gm u0) (sT p.n i b s1) r1 c->SF p (gm u0) s1 r1 c):SAt p fb q I2 i cb top (gm u0) u (L7 p.n (p.bo i) i b s1) 0 r1/\LeG m (gm u0)/\Prv w.heap.size w (SF p m o.s r) u (SF p (gm u0) (sT p.n i b s1) r1)/\LOk p.n (p.bo i) i s1 b/\SOk p.n p.m (xp0 p) s1:=
 ⟨h.next hw hM (LeG.refl _) hm.tape hm.os hm.output,hw.le,⟨Nat.le_trans hg.goes.B4.size hm.size,fun c _ hc hn hF'=>by
  obtain⟨a,d⟩:=hg.goes.B4.j0 c hc hn hF';refine⟨(hm.block c (Nat.lt_of_lt_of_le hc hg.goes.B4.size) (fun e=>d (e▸hx)) fun e=>?_).trans a,fun z=>d (by rw[hw.F];exact hF c z)⟩;rcases hy with z|z
  ·exact d (by rw[e,z];exact hx)
  ·omega,hm.os.trans hg.goes.B4.os,hm.output.trans hg.goes.B4.output⟩,hw.K4,hw.so⟩
theorem SAt.looked(h:SAt p fb q I2 i cb top m w o k r)(hg:Gn (B3 p fb q I2 i cb top) w m (SF p m o.s r) b u F')(hw:cy1 p fb q I2 i cb top m u F' b s1 r1)(hs:sT p.n i b s1=s1):SAt p fb q I2 i cb top (gm u) u (L7 p.n (p.bo i) i b s1) 0 r1/\LeG m (gm u)/\Prv w.heap.size w (SF p m o.s r) u (SF p (gm u) (sT p.n i b s1) r1)/\LOk p.n (p.bo i) i s1 b/\SOk p.n p.m (xp0 p) s1:=
 ⟨h.next hw (by rw[hs];exact hw.mem) (LeG.refl _) rfl rfl rfl,hw.le,⟨hg.goes.B4.size,fun c _ hc hn hF'=>by
  obtain⟨a,d⟩:=hg.goes.B4.j0 c hc hn hF';exact⟨a,fun z=>d (by rw[hw.F,<- hs];exact z)⟩,hg.goes.B4.os,hg.goes.B4.output⟩,hw.K4,hw.so⟩
theorem SF.same{s':H4}(he:s'.en.length=s.en.length)(hs:∀j,(s'.st j).R3=(s.st j).R3/\(s'.st j).V0=(s.st j).V0)(h:SF p m s' r c):SF p m s r c:=by
 rcases h with⟨j,hj,z⟩|⟨e,hl,z⟩|z
 ·rw[(hs j).1,(hs j).2]at z;exact .inl ⟨j,hj,z⟩
 ·exact .inr (.inl ⟨e,he▸hl,z⟩)
 ·exact .inr (.inr z)
theorem SF.lock{j:Nat}{x:Str}(h1:x.R3=(s.st j).R3)(h2:x.V0=(s.st j).V0)(h:SF p m (K7 s j x) r c):SF p m s r c:=
 SF.same (s:=s) (s':=K7 s j x) rfl (fun j'=>by
  show(P3 s.st j x j').R3=_/\(P3 s.st j x j').V0=_;by_cases e:j'=j
  ·subst e;rw[I1];exact⟨h1,h2⟩
  ·rw[B1 e];exact⟨rfl,rfl⟩) h
theorem SF.ent{e:Nat}{x:Ent}(h:SF p m (bd0 s e x) r c):SF p m s r c:=SF.same (s:=s) (s':=bd0 s e x) (List.length_set ..) (fun _=>⟨rfl,rfl⟩) h
theorem pg0{b:Nat}{a1 a2 b1 b2:Value}{h h':Bool}{x x':Int}{T T':TypeId}(h1:I0 w b #[a1,a2,.bool h,.i x] T)(h2:I0 w b #[b1,b2,.bool h',.i x'] T'):h=h'/\x=x':=by
 have e3:=congrArg (fun a:Array Value=>a.toList) (re0 h1 h2);simp at e3;exact e3.2.2
theorem Xr0(h:n <=1000):IntKind.i64.wrap ((n:Int)+1)=((n+1:Nat):Int):=by rw[IntKind.wrap_i64];omega
theorem Xs0(h:n <=1000):max 0 (IntKind.i64.wrap ((n:Int)-1))=((n-1:Nat):Int):=by rw[IntKind.wrap_i64];omega
end
end
section
variable{p:C5}{fb:Nat->FuncId}{q:PR (C1 p)}{I2:World}{i cb:Nat}{top:List Frame}{m:Gm}{w:World}{o:I6 H4 Lb}{k:Nat}{r:F6}{b:Lb}{e:Nat}
theorem cz1(h:SAt p fb q I2 i cb top m w o k r)(hk:k=o.nts.length)(hf:o.X4= .inl b)(hp:b.ph= .bn0):@Calls prog (J0 (B3 p fb q I2 i cb top)) 102 #[.pointer (some ⟨p.rw b.j,0,none⟩),.p cb] w (qu0 p fb q I2 i cb top b w.heap.size m w o.s r fun v _s1 _m1 _ _=>v= .tuple #[]):=by
 refine U91 ?_;intro hj hT;have O2:(B3 p fb q I2 i cb top).stp b=⟨3,p.obj,(b.j:Nat)⟩:=by
  show Z3 p.obj b=_;unfold Z3;rw[hp]
 refine @Calls.mono _ (J0 _) _ _ _ _ _ (Pi0 h.kok (p.ls b.j) p.obj b.j _ _ (p.rw b.j) w hT O2 (h.mem.rob (h.ok.hR b.j hj)) (h.mem.lk b.j hj) (fun u F' hl=>?_)) fun e u he=>?_
 ·obtain⟨r1,-,hM,-⟩:=by0 hl;refine⟨_,_,hM.lk b.j hj,?_⟩;show H9 b ((C1 p).sAt q (gh u 0))=_;unfold H9;rw[hp]
 ·cases e with
  |outgrown=>exact he
  |panicked ch=>exact he
  |returned v=>
   obtain⟨rfl,u0,F',h',r',hg,hB0,hB,j3,ht⟩:=he;obtain⟨r1,hw⟩:=h.jy0 hg.goes;generalize (C1 p).sAt q (gh u0 0)=s1 at hw;obtain⟨e1,e2⟩:=pg0 hB0 (hw.mem.lk b.j hj);subst e1 e2;have mj1:=hw.rd b.j;have hm9:=h.ok.m;rw[Xr0 Uo]at hB;have hM:=hw.mem.lock h.ok hj j3 hB;have hs:sT p.n i b s1=K7 s1 b.j {s1.st b.j with k6:=(s1.st b.j).k6+1}:=by
    unfold sT;rw[hp]
   obtain⟨a1,a2,a3,a4,a5⟩:=h.wrote hg hw (bf0.of j3) (by rw[hw.F];exact SF.lk hj) (.inl rfl) (by rw[hs];exact hM) (fun c hc=>by rw[hs]at hc;refine SF.lock (s:=s1) (j:=b.j) ?_ ?_ hc <;> rfl);exact⟨_,_,r1,a1,a2,a3,a4,a5,rfl⟩
theorem gz1(h:SAt p fb q I2 i cb top m w o k r)(hk:k=o.nts.length)(hf:o.X4= .inl b)(hp:b.ph= .lck\/∃e,b.ph= .ie0 e):@Calls prog (J0 (B3 p fb q I2 i cb top)) 52 #[.pointer (some ⟨p.rw b.j,0,none⟩),.p cb] w (qu0 p fb q I2 i cb top b w.heap.size m w o.s r fun v _s1 _m1 _ _=>v= .tuple #[]):=by
 refine U91 ?_;intro hj hT;have O2:(B3 p fb q I2 i cb top).stp b=⟨1,p.obj,(b.j:Nat)⟩:=by
  show Z3 p.obj b=_;unfold Z3;rcases hp with hp|⟨e,hp⟩ <;> rw[hp]
 refine @Calls.mono _ (J0 _) _ _ _ _ _ (Wa0 h.kok (p.ls b.j) p.obj b.j _ _ (p.rw b.j) w hT O2 (h.mem.rob (h.ok.hR b.j hj)) (h.mem.lk b.j hj) (fun u F' hl=>?_)) fun e u he=>?_
 ·obtain⟨r1,-,hM,-⟩:=by0 hl;refine⟨_,_,hM.lk b.j hj,?_⟩;show H9 b ((C1 p).sAt q (gh u 0))=_;unfold H9;rcases hp with hp|⟨e,hp⟩ <;> simp only[hp] <;> congr 1 <;> exact decide_eq_decide.2 Uo
 ·cases e with
  |outgrown=>exact he
  |panicked ch=>exact he
  |returned v=>
   obtain⟨rfl,u0,F',h',r',hg,hB0,hB,j3,ht⟩:=he;obtain⟨r1,hw⟩:=h.jy0 hg.goes;generalize (C1 p).sAt q (gh u0 0)=s1 at hw;obtain⟨e1,e2⟩:=pg0 hB0 (hw.mem.lk b.j hj);subst e1 e2;have mj1:=hw.rd b.j;have hm9:=h.ok.m
   skip
   have hM:=hw.mem.lock h.ok hj j3 hB;have hs:sT p.n i b s1=K7 s1 b.j {s1.st b.j with held:=true}:=by
    unfold sT;rcases hp with hp|⟨e,hp⟩ <;> rw[hp]
   obtain⟨a1,a2,a3,a4,a5⟩:=h.wrote hg hw (bf0.of j3) (by rw[hw.F];exact SF.lk hj) (.inl rfl) (by rw[hs];exact hM) (fun c hc=>by rw[hs]at hc;refine SF.lock (s:=s1) (j:=b.j) ?_ ?_ hc <;> rfl);exact⟨_,_,r1,a1,a2,a3,a4,a5,rfl⟩
theorem ha1(h:SAt p fb q I2 i cb top m w o k r)(hk:k=o.nts.length)(hf:o.X4= .inl b)(hp:(∃e,b.ph= .run e)\/b.ph= .mo0):@CallsD prog (J0 (B3 p fb q I2 i cb top)) 103 #[.pointer (some ⟨p.rw b.j,0,none⟩),.p cb] w (qu0 p fb q I2 i cb top b w.heap.size m w o.s r fun v _s1 _m1 _ _=>v= .tuple #[]):=by
 refine U91 ?_;intro hj hT;have O2:(B3 p fb q I2 i cb top).stp b=⟨4,p.obj,(b.j:Nat)⟩:=by
  show Z3 p.obj b=_;unfold Z3;rcases hp with⟨e,hp⟩|hp <;> rw[hp]
 have hrd:∀s,(B3 p fb q I2 i cb top).rdy b s=true:=fun s=>by
  show H9 b s=true;unfold H9;rcases hp with⟨e,hp⟩|hp <;> rw[hp]
 refine @CallsD.mono _ (J0 _) _ _ _ _ _ (Hh0 h.kok (p.ls b.j) p.obj b.j _ _ (p.rw b.j) w hT O2 hrd (h.mem.rob (h.ok.hR b.j hj)) (h.mem.lk b.j hj) (fun u F' hl=>?_)) fun e u he=>?_
 ·obtain⟨r1,-,hM,-⟩:=by0 hl;exact⟨_,_,hM.lk b.j hj⟩
 ·cases e with
  |outgrown=>exact he
  |panicked ch=>exact he
  |returned v=>
   obtain⟨rfl,u0,F',h',r',hg,hB0,hB,j3,ht⟩:=he;obtain⟨r1,hw⟩:=h.jy0 hg.goes;generalize (C1 p).sAt q (gh u0 0)=s1 at hw;obtain⟨e1,e2⟩:=pg0 hB0 (hw.mem.lk b.j hj);subst e1 e2;have mj1:=hw.rd b.j;have hm9:=h.ok.m;rw[Xs0 Uo]at hB;have hM:=hw.mem.lock h.ok hj j3 hB;have hs:sT p.n i b s1=K7 s1 b.j {s1.st b.j with k6:=(s1.st b.j).k6-1}:=by
    unfold sT;rcases hp with⟨e,hp⟩|hp <;> rw[hp]
   obtain⟨a1,a2,a3,a4,a5⟩:=h.wrote hg hw (bf0.of j3) (by rw[hw.F];exact SF.lk hj) (.inl rfl) (by rw[hs];exact hM) (fun c hc=>by rw[hs]at hc;refine SF.lock (s:=s1) (j:=b.j) ?_ ?_ hc <;> rfl);exact⟨_,_,r1,a1,a2,a3,a4,a5,rfl⟩
theorem Nj0(h:SAt p fb q I2 i cb top m w o k r)(hk:k=o.nts.length)(hf:o.X4= .inl b)(hp:(∃e,b.ph= .unl e)\/∃e,b.ph= .cr0 e):@CallsD prog (J0 (B3 p fb q I2 i cb top)) 53 #[.pointer (some ⟨p.rw b.j,0,none⟩),.p cb] w (qu0 p fb q I2 i cb top b w.heap.size m w o.s r fun v _s1 _m1 _ _=>v= .tuple #[]):=by
 refine U91 ?_;intro hj hT;have O2:(B3 p fb q I2 i cb top).stp b=⟨2,p.obj,(b.j:Nat)⟩:=by
  show Z3 p.obj b=_;unfold Z3;rcases hp with⟨e,hp⟩|⟨e,hp⟩ <;> rw[hp]
 have hrd:∀s,(B3 p fb q I2 i cb top).rdy b s=true:=fun s=>by
  show H9 b s=true;unfold H9;rcases hp with⟨e,hp⟩|⟨e,hp⟩ <;> rw[hp]
 refine @CallsD.mono _ (J0 _) _ _ _ _ _ (Kr0 h.kok (p.ls b.j) p.obj b.j _ _ (p.rw b.j) w hT O2 hrd (h.mem.rob (h.ok.hR b.j hj)) (h.mem.lk b.j hj) (fun u F' hl=>?_)) fun e u he=>?_
 ·obtain⟨r1,-,hM,-⟩:=by0 hl;exact⟨_,_,hM.lk b.j hj⟩
 ·cases e with
  |outgrown=>exact he
  |panicked ch=>exact he
  |returned v=>
   obtain⟨rfl,u0,F',h',r',hg,hB0,hB,j3,ht⟩:=he;obtain⟨r1,hw⟩:=h.jy0 hg.goes;generalize (C1 p).sAt q (gh u0 0)=s1 at hw;obtain⟨e1,e2⟩:=pg0 hB0 (hw.mem.lk b.j hj);subst e1 e2;have mj1:=hw.rd b.j;have hm9:=h.ok.m
   skip
   have hM:=hw.mem.lock h.ok hj j3 hB;have hs:sT p.n i b s1=K7 s1 b.j {s1.st b.j with held:=false}:=by
    unfold sT;rcases hp with⟨e,hp⟩|⟨e,hp⟩ <;> rw[hp]
   obtain⟨a1,a2,a3,a4,a5⟩:=h.wrote hg hw (bf0.of j3) (by rw[hw.F];exact SF.lk hj) (.inl rfl) (by rw[hs];exact hM) (fun c hc=>by rw[hs]at hc;refine SF.lock (s:=s1) (j:=b.j) ?_ ?_ hc <;> rfl);exact⟨_,_,r1,a1,a2,a3,a4,a5,rfl⟩
theorem Xt0(h:SAt p fb q I2 i cb top m w o k r)(hk:k=o.nts.length)(hf:o.X4= .inl b)(hp:b.ph= .look\/b.ph= .jf0\/∃e,b.ph= .et0 e):@Calls prog (J0 (B3 p fb q I2 i cb top)) 39 #[.pointer (some ⟨p.cl b.j,0,none⟩),.p cb] w (qu0 p fb q I2 i cb top b w.heap.size m w o.s r fun v s1 m1 _ _=>v= .agg #[.slice (some ⟨va m1 b.j (s1.st b.j).R3,0,none⟩) (s1.st b.j).V0 (vc m1 b.j (s1.st b.j).R3),.i ((s1.st b.j).l.length:Nat),.i ((s1.st b.j).made:Nat)]):=by
 refine U91 ?_;intro hj hT;have O2:(B3 p fb q I2 i cb top).stp b=⟨8,oW p.obj 1,(b.j:Nat)⟩:=by
  show Z3 p.obj b=_;unfold Z3;rcases hp with hp|hp|⟨e,hp⟩ <;> rw[hp]
 have hrd:∀s,(B3 p fb q I2 i cb top).rdy b s=true:=fun s=>by
  show H9 b s=true;unfold H9;rcases hp with hp|hp|⟨e,hp⟩ <;> rw[hp]
 refine @Calls.mono _ (J0 _) _ _ _ _ _ (Xg0 h.kok (p.cl b.j) p.wb (oW p.obj 1) b.j _ _ _ _ _ w hT O2 hrd (h.mem.rob h.ok.hW) (h.mem.cl b.j hj) (fun u F' hg=>?_)) fun e u he=>?_
 ·obtain⟨r1,hw⟩:=h.jy0 hg;exact⟨_,_,_,_,_,hw.mem.cl b.j hj⟩
 ·cases e with
  |outgrown=>exact he
  |panicked ch=>exact he
  |returned v=>
   obtain⟨F',hg,sa,sn,sc,ct,md,rfl,hC⟩:=he;obtain⟨r1,hw⟩:=h.jy0 hg.goes;have hs:sT p.n i b ((C1 p).sAt q (gh u 0))=(C1 p).sAt q (gh u 0):=by
    unfold sT;rcases hp with hp|hp|⟨e,hp⟩ <;> rw[hp]
   obtain⟨a1,a2,a3,a4,a5⟩:=h.looked hg hw hs;refine⟨_,_,r1,a1,a2,a3,a4,a5,?_⟩;have e1:=re0 hC (hw.mem.cl b.j hj);unfold clC at e1;have e3:=congrArg (fun a:Array Value=>a.toList) e1;simp at e3;obtain⟨x1,x2,x3⟩:=e3;obtain⟨y1,y2,y3⟩:=x1;subst y1 y2 y3 x2 x3;rfl
theorem da1(h:SAt p fb q I2 i cb top m w o k r)(hk:k=o.nts.length)(hf:o.X4= .inl b)(hp:b.ph= .Q3 e):@Calls prog (J0 (B3 p fb q I2 i cb top)) 55 #[.pointer (some ⟨cnG m e,0,none⟩),.p cb] w (qu0 p fb q I2 i cb top b w.heap.size m w o.s r fun v s1 _m1 _ _=>v= .i (gE s1 e).Q3):=by
 have he:=(h.K4 b hf).e e (by rw[hp] <;> rfl);have hnu:=(h.K4 b hf).nu e (by rw[hp] <;> rfl);have hT:=h.ko0 hk hf;have O2:(B3 p fb q I2 i cb top).stp b=⟨5,oW p.obj 3,((gE o.s e).num:Nat)⟩:=by
  show Z3 p.obj b=_;unfold Z3;rw[<- hnu];rw[hp]
 have hrd:∀s,(B3 p fb q I2 i cb top).rdy b s=true:=fun s=>by
  show H9 b s=true;unfold H9;rw[hp]
 obtain⟨sa,hC⟩:=(h.mem.en e he).hC;refine @Calls.mono _ (J0 _) _ _ _ _ _ (cc1 h.kok (cnG m e) p.wb (oW p.obj 3) ((gE o.s e).num:Nat) (fun tt=>(gE ((C1 p).sAt q tt) e).Q3) _ sa w hT O2 hrd (h.mem.rob h.ok.hW) hC (fun u F' hg=>?_)) fun x u j8=>?_
 ·obtain⟨r1,hw⟩:=h.jy0 hg;obtain⟨l1,l2,l3,l4,l5,l6⟩:=w6 h.mem hw.mem hw.le he;obtain⟨sa,hC⟩:=(hw.mem.en e l1).hC;rw[l5]at hC;unfold cnC at hC;rw[l6]at hC;exact⟨sa,hC⟩
 ·cases x with
  |outgrown=>exact j8
  |panicked ch=>exact j8
  |returned v=>
   obtain⟨F',tt,hg,htt,rfl⟩:=j8;obtain⟨r1,hw⟩:=h.jy0 hg.goes;have hs:sT p.n i b ((C1 p).sAt q (gh u 0))=(C1 p).sAt q (gh u 0):=by
    unfold sT;rw[hp]
   obtain⟨a1,a2,a3,a4,a5⟩:=h.looked hg hw hs;exact⟨_,_,r1,a1,a2,a3,a4,a5,by rw[htt.eq]⟩
theorem Xu0(h:SAt p fb q I2 i cb top m w o k r)(hk:k=o.nts.length)(hf:o.X4= .inl b)(hp:b.ph= .more e\/b.ph= .bo0 e):@Calls prog (J0 (B3 p fb q I2 i cb top)) 50 #[.pointer (some ⟨cnG m e,0,none⟩),.p cb,.i 1] w (qu0 p fb q I2 i cb top b w.heap.size m w o.s r fun v s1 _m1 _ _=>v= .i (IntKind.i64.wrap ((gE s1 e).Q3+1))):=by
 have he:=(h.K4 b hf).e e (by(rcases hp with hp|hp <;> rw[hp]) <;> rfl);have hnu:=(h.K4 b hf).nu e (by(rcases hp with hp|hp <;> rw[hp]) <;> rfl);have hT:=h.ko0 hk hf;have O2:(B3 p fb q I2 i cb top).stp b=⟨7,oW p.obj 3,((gE o.s e).num:Nat)⟩:=by
  show Z3 p.obj b=_;unfold Z3;rw[<- hnu]
  (rcases hp with hp|hp <;> rw[hp])
 have hrd:∀s,(B3 p fb q I2 i cb top).rdy b s=true:=fun s=>by
  show H9 b s=true;unfold H9
  (rcases hp with hp|hp <;> rw[hp])
 obtain⟨sa,hC⟩:=(h.mem.en e he).hC;refine @Calls.mono _ (J0 _) _ _ _ _ _ (Mv0 h.kok (cnG m e) p.wb (oW p.obj 3) ((gE o.s e).num:Nat) (fun tt=>(gE ((C1 p).sAt q tt) e).Q3) _ 1 sa w hT O2 hrd (h.mem.rob h.ok.hW) hC (fun u F' hg=>?_)) fun x u j8=>?_
 ·obtain⟨r1,hw⟩:=h.jy0 hg;obtain⟨l1,l2,l3,l4,l5,l6⟩:=w6 h.mem hw.mem hw.le he;obtain⟨sa,hC⟩:=(hw.mem.en e l1).hC;rw[l5]at hC;unfold cnC at hC;rw[l6]at hC;exact⟨sa,hC⟩
 ·cases x with
  |outgrown=>exact j8
  |panicked ch=>exact j8
  |returned v=>
   obtain⟨u0,F',tt,sa2,hg,htt,rfl,hB,y,hy1,hy2,hm2,ht⟩:=j8;obtain⟨r1,hw⟩:=h.jy0 hg.goes;subst htt;obtain⟨l1,l2,l3,l4,l5,l6⟩:=w6 h.mem hw.mem hw.le he;have hs:sT p.n i b ((C1 p).sAt q (gh u0 0))=ct0 ((C1 p).sAt q (gh u0 0)) e (1):=by
    unfold sT
    (rcases hp with hp|hp <;> rw[hp])
   have hM:=hw.mem.cnt h.ok l1 (l5.symm▸hm2) (fun z=>hy2 (by rw[hw.F];exact z)) (l5.symm▸l6.symm▸hB);obtain⟨a1,a2,a3,a4,a5⟩:=h.wrote hg hw hm2 (by rw[hw.F,<- l5];exact SF.cn l1) (.inr ⟨hy1,hy2⟩) (by rw[hs];exact hM) (fun c hc=>by rw[hs]at hc;exact SF.ent hc);exact⟨_,_,r1,a1,a2,a3,a4,a5,rfl⟩
theorem mk1(h:SAt p fb q I2 i cb top m w o k r)(hk:k=o.nts.length)(hf:o.X4= .inl b)(hp:b.ph= .less e):@Calls prog (J0 (B3 p fb q I2 i cb top)) 50 #[.pointer (some ⟨cnG m e,0,none⟩),.p cb,.i (-1)] w (qu0 p fb q I2 i cb top b w.heap.size m w o.s r fun v s1 _m1 _ _=>v= .i (IntKind.i64.wrap ((gE s1 e).Q3+(-1)))):=by
 have he:=(h.K4 b hf).e e (by rw[hp] <;> rfl);have hnu:=(h.K4 b hf).nu e (by rw[hp] <;> rfl);have hT:=h.ko0 hk hf;have O2:(B3 p fb q I2 i cb top).stp b=⟨7,oW p.obj 3,((gE o.s e).num:Nat)⟩:=by
  show Z3 p.obj b=_;unfold Z3;rw[<- hnu];rw[hp]
 have hrd:∀s,(B3 p fb q I2 i cb top).rdy b s=true:=fun s=>by
  show H9 b s=true;unfold H9;rw[hp]
 obtain⟨sa,hC⟩:=(h.mem.en e he).hC;refine @Calls.mono _ (J0 _) _ _ _ _ _ (Mv0 h.kok (cnG m e) p.wb (oW p.obj 3) ((gE o.s e).num:Nat) (fun tt=>(gE ((C1 p).sAt q tt) e).Q3) _ (-1) sa w hT O2 hrd (h.mem.rob h.ok.hW) hC (fun u F' hg=>?_)) fun x u j8=>?_
 ·obtain⟨r1,hw⟩:=h.jy0 hg;obtain⟨l1,l2,l3,l4,l5,l6⟩:=w6 h.mem hw.mem hw.le he;obtain⟨sa,hC⟩:=(hw.mem.en e l1).hC;rw[l5]at hC;unfold cnC at hC;rw[l6]at hC;exact⟨sa,hC⟩
 ·cases x with
  |outgrown=>exact j8
  |panicked ch=>exact j8
  |returned v=>
   obtain⟨u0,F',tt,sa2,hg,htt,rfl,hB,y,hy1,hy2,hm2,ht⟩:=j8;obtain⟨r1,hw⟩:=h.jy0 hg.goes;subst htt;obtain⟨l1,l2,l3,l4,l5,l6⟩:=w6 h.mem hw.mem hw.le he;have hs:sT p.n i b ((C1 p).sAt q (gh u0 0))=ct0 ((C1 p).sAt q (gh u0 0)) e (-1):=by
    unfold sT;rw[hp]
   have hM:=hw.mem.cnt h.ok l1 (l5.symm▸hm2) (fun z=>hy2 (by rw[hw.F];exact z)) (l5.symm▸l6.symm▸hB);obtain⟨a1,a2,a3,a4,a5⟩:=h.wrote hg hw hm2 (by rw[hw.F,<- l5];exact SF.cn l1) (.inr ⟨hy1,hy2⟩) (by rw[hs];exact hM) (fun c hc=>by rw[hs]at hc;exact SF.ent hc);exact⟨_,_,r1,a1,a2,a3,a4,a5,rfl⟩
theorem db1(h:SAt p fb q I2 i cb top m w o k r)(hk:k=o.nts.length)(hf:o.X4= .inl b)(hp:b.ph= .G9 e):@Calls prog (J0 (B3 p fb q I2 i cb top)) 48 #[.pointer (some ⟨lmG m e,0,none⟩),.p cb] w (qu0 p fb q I2 i cb top b w.heap.size m w o.s r fun v _s1 _m1 _ _=>v= .tuple #[]):=by
 have he:=(h.K4 b hf).e e (by rw[hp];rfl);have hnu:=(h.K4 b hf).nu e (by rw[hp];rfl);have hT:=h.ko0 hk hf;have O2:(B3 p fb q I2 i cb top).stp b=⟨1,oW p.obj 2,((gE o.s e).num:Nat)⟩:=by
  show Z3 p.obj b=_;unfold Z3;rw[<- hnu,hp]
 have hL:=(h.mem.en e he).hL;refine @Calls.mono _ (J0 _) _ _ _ _ _ (Vz0 h.kok (ltG m e) (oW p.obj 2) ((gE o.s e).num:Nat) _ _ (lmG m e) w hT O2 (h.mem.en e he).hM hL (fun u F' hl=>?_)) fun x u j8=>?_
 ·obtain⟨r1,-,hM,hle⟩:=by0 hl;obtain⟨l1,l2,l3,l4,l5,l6⟩:=w6 h.mem hM hle he;have hL1:=(hM.en e l1).hL;rw[l4]at hL1;unfold ltC at hL1;rw[l6]at hL1;refine⟨_,_,hL1,?_⟩;show H9 b ((C1 p).sAt q (gh u 0))=_;unfold H9;rw[hp];simp
 ·cases x with
  |outgrown=>exact j8
  |panicked ch=>exact j8
  |returned v=>
   obtain⟨rfl,u0,F',h',r',hg,hB0,hB,j3,ht⟩:=j8;obtain⟨r1,hw⟩:=h.jy0 hg.goes;obtain⟨l1,l2,l3,l4,l5,l6⟩:=w6 h.mem hw.mem hw.le he;have hL1:=(hw.mem.en e l1).hL;rw[l4]at hL1;obtain⟨e1,e2⟩:=pg0 hB0 hL1;subst e1 e2;have hM:=hw.mem.G9 h.ok l1 (hd:=true) (by rw[l4];exact j3) (by rw[l4,l6];exact hB);have hs:sT p.n i b ((C1 p).sAt q (gh u0 0))=bd0 ((C1 p).sAt q (gh u0 0)) e {gE ((C1 p).sAt q (gh u0 0)) e with held:=true}:=by
    unfold sT;rw[hp]
   obtain⟨a1,a2,a3,a4,a5⟩:=h.wrote hg hw (bf0.of j3) (by rw[hw.F,<- l4];exact SF.lt l1) (.inl rfl) (by rw[hs];exact hM) (fun c hc=>by rw[hs]at hc;exact SF.ent hc);exact⟨_,_,r1,a1,a2,a3,a4,a5,rfl⟩
theorem Pv0(h:SAt p fb q I2 i cb top m w o k r)(hk:k=o.nts.length)(hf:o.X4= .inl b)(hp:b.ph= .E6 e):@Calls prog (J0 (B3 p fb q I2 i cb top)) 49 #[.pointer (some ⟨lmG m e,0,none⟩),.p cb] w (qu0 p fb q I2 i cb top b w.heap.size m w o.s r fun v _s1 _m1 _ _=>v= .tuple #[]):=by
 have he:=(h.K4 b hf).e e (by rw[hp];rfl);have hnu:=(h.K4 b hf).nu e (by rw[hp];rfl);have hT:=h.ko0 hk hf;have O2:(B3 p fb q I2 i cb top).stp b=⟨2,oW p.obj 2,((gE o.s e).num:Nat)⟩:=by
  show Z3 p.obj b=_;unfold Z3;rw[<- hnu,hp]
 have hrd:∀s,(B3 p fb q I2 i cb top).rdy b s=true:=fun s=>by
  show H9 b s=true;unfold H9;rw[hp]
 have hL:=(h.mem.en e he).hL;refine @Calls.mono _ (J0 _) _ _ _ _ _ (Jx0 h.kok (ltG m e) (oW p.obj 2) ((gE o.s e).num:Nat) _ _ (lmG m e) w hT O2 hrd (h.mem.en e he).hM hL (fun u F' hl=>?_)) fun x u j8=>?_
 ·obtain⟨r1,-,hM,hle⟩:=by0 hl;obtain⟨l1,l2,l3,l4,l5,l6⟩:=w6 h.mem hM hle he;have hL1:=(hM.en e l1).hL;rw[l4]at hL1;unfold ltC at hL1;rw[l6]at hL1;refine⟨_,_,hL1⟩
 ·cases x with
  |outgrown=>exact j8
  |panicked ch=>exact j8
  |returned v=>
   obtain⟨rfl,u0,F',h',r',hg,hB0,hB,j3,ht⟩:=j8;obtain⟨r1,hw⟩:=h.jy0 hg.goes;obtain⟨l1,l2,l3,l4,l5,l6⟩:=w6 h.mem hw.mem hw.le he;have hL1:=(hw.mem.en e l1).hL;rw[l4]at hL1;obtain⟨e1,e2⟩:=pg0 hB0 hL1;subst e1 e2;have hM:=hw.mem.G9 h.ok l1 (hd:=false) (by rw[l4];exact j3) (by rw[l4,l6];exact hB);have hs:sT p.n i b ((C1 p).sAt q (gh u0 0))=bd0 ((C1 p).sAt q (gh u0 0)) e {gE ((C1 p).sAt q (gh u0 0)) e with held:=false}:=by
    unfold sT;rw[hp]
   obtain⟨a1,a2,a3,a4,a5⟩:=h.wrote hg hw (bf0.of j3) (by rw[hw.F,<- l4];exact SF.lt l1) (.inl rfl) (by rw[hs];exact hM) (fun c hc=>by rw[hs]at hc;exact SF.ent hc);exact⟨_,_,r1,a1,a2,a3,a4,a5,rfl⟩
end
section
variable{p:C5}{m:Gm}{w u:World}{s s':H4}{r:F6}
def BkF(V0 a:Nat)(ia:Nat->Option Addr)(x:Nat):Prop:=x=a\/∃i,i<V0/\ia i≠none/\x=ab (ia i)
section
variable{a c x N n:Nat}{l:List Nat}{ia:Nat->Option Addr}{ic:Nat->Nat}{sl:Nat->List Nat}
theorem SF.Xq0{j made V0:Nat}(hp:C6 p)(hj:j<p.n)(Kp0:V0 <=256)(hso:∀j,(s.st j).V0 <=256)(hca:∀i,i<V0->∀x,ia i=some x->x=⟨x.block,0,none⟩)(h:SF p (bx0 m j ((s.st j).R3+1) a c ia ic) (K7 s j ⟨(s.st j).held,(s.st j).k6,l,made,V0,(s.st j).R3+1⟩) r x):SF p m s r x\/BkF V0 a ia x:=by
 have hsj:(K7 s j ⟨(s.st j).held,(s.st j).k6,l,made,V0,(s.st j).R3+1⟩).st j=⟨(s.st j).held,(s.st j).k6,l,made,V0,(s.st j).R3+1⟩:=I1;have hsn:∀j',j'≠j->(K7 s j ⟨(s.st j).held,(s.st j).k6,l,made,V0,(s.st j).R3+1⟩).st j'=s.st j':=fun j' h=>B1 h;rcases h with⟨j',hj',h⟩|⟨e,he,h⟩|h
 ·by_cases hjj:j'=j
  ·subst hjj;rw[hsj]at h;rcases h with h|h|h|⟨i,hi,ha,h⟩
   ·exact .inl (.inl ⟨j',hj',.inl h⟩)
   ·exact .inl (.inl ⟨j',hj',.inr (.inl h)⟩)
   ·refine .inr (.inl ?_);rw[h];show va _ _ ((s.st j').R3+1)=a;unfold va;rw[Km0];rfl
   ·have hi:i<V0:=hi;have e1:iaG (bx0 m j' ((s.st j').R3+1) a c ia ic) j' ((s.st j').R3+1) i=ia i:=by
     unfold iaG;rw[Kn0 m Uo];exact gy1 (hca i hi)
    have ha:iaG _ j' ((s.st j').R3+1) i≠none:=ha;have h:x=ab (iaG _ j' ((s.st j').R3+1) i):=h;rw[e1]at ha h;exact .inr (.inr ⟨i,hi,ha,h⟩)
  ·rw[hsn j' hjj]at h;have h64:=Nat.lt_of_lt_of_le hj hp.n.2;have vc1:=Nat.lt_of_lt_of_le hj' hp.n.2;have hva:va (bx0 m j ((s.st j).R3+1) a c ia ic) j' (s.st j').R3=va m j' (s.st j').R3:=by unfold va;rw[rf0 m h64 vc1 (.inl hjj)]
   rw[hva]at h;refine .inl (.inl ⟨j',hj',?_⟩);rcases h with h|h|h|⟨i,hi,ha,h⟩
   ·exact .inl h
   ·exact .inr (.inl h)
   ·exact .inr (.inr (.inl h))
   ·have e1:iaG (bx0 m j ((s.st j).R3+1) a c ia ic) j' (s.st j').R3 i=iaG m j' (s.st j').R3 i:=by
     unfold iaG;rw[rg0 m h64 vc1 (.inl hjj) (Nat.lt_of_lt_of_le hi (hso j'))]
    rw[e1]at ha h;exact .inr (.inr (.inr ⟨i,hi,ha,h⟩))
 ·refine .inl (.inr (.inl ⟨e,he,?_⟩));unfold Sc.eb lmG ltG cnG at h⊢;rw[Ni0,pe0 m (.inr (.inl rfl)),pe0 m (.inr (.inr (.inl rfl))),pe0 m (.inr (.inr (.inr (.inl rfl))))]at h;exact h
 ·exact .inl (.inr (.inr h))
theorem SF.el0{x:Ent}{b lm lt cn z:Nat}(h:SF p (cu0 m s.en.length b lm lt cn x.num) (Sc.el0 s x) {r with ky:=P3 r.ky b x.key} z):SF p m s r z\/z=b\/z=lm\/z=lt\/z=cn:=by
 have hg1:∀k,cu0 m s.en.length b lm lt cn x.num (9*k+1)=m (9*k+1):=fun k=>pf0 _ _ _ _ _ _ _ _ 1 (.inl rfl);have hg7:∀k,cu0 m s.en.length b lm lt cn x.num (9*k+7)=m (9*k+7):=fun k=>pf0 _ _ _ _ _ _ _ _ 7 (.inr (.inr (.inl rfl)));rcases h with⟨j',hj',h⟩|⟨e,he,h⟩|h
 ·have hva:va (cu0 m s.en.length b lm lt cn x.num) j' ((Sc.el0 s x).st j').R3=va m j' (s.st j').R3:=by unfold va;rw[hg1];rfl
  have hia:iaG (cu0 m s.en.length b lm lt cn x.num) j' ((Sc.el0 s x).st j').R3=iaG m j' (s.st j').R3:=funext fun i=>by unfold iaG;rw[hg7];rfl
  rw[hva,hia]at h;exact .inl (.inl ⟨j',hj',h⟩)
 ·have hlen:(Sc.el0 s x).en.length=s.en.length+1:=by show(s.en ++ [x]).length=_;rw[List.length_append];rfl
  rw[hlen]at he;by_cases hen:e=s.en.length
  ·subst hen;have h9:=rh0 m s.en.length b lm lt cn x.num;unfold Sc.eb lmG ltG cnG at h;rw[h9.1,h9.2.1,h9.2.2.1,h9.2.2.2.1]at h;exact .inr h
  ·have h9:=ob0 m (b:=b) (lm:=lm) (lt:=lt) (cn:=cn) (nu:=x.num) hen;refine .inl (.inr (.inl ⟨e,by omega,?_⟩));unfold Sc.eb lmG ltG cnG at h⊢;rw[h9.1,h9.2.1,h9.2.2.1,h9.2.2.2.1]at h;exact h
 ·exact .inl (.inr (.inr h))
theorem Bk.B4{F F':Nat->Prop}(h:Bk w N n (pt a) c sl ia ic)(hk:∀b,b<w.heap.size->w.heap[b]? ≠some nothing->¬F b->u.heap[b]? =w.heap[b]?/\¬F' b)(hn:∀x,BkF n a ia x->¬F x):Bk u N n (pt a) c sl ia ic/\∀x,BkF n a ia x->¬F' x:=by
 have v1:a<w.heap.size/\w.heap[a]? ≠some nothing:=by
  obtain⟨cur,hc,_⟩:=h.out.row (by simp);exact m7 hc Ud
 have v2:∀i,i<n->ia i≠none->ab (ia i)<w.heap.size/\w.heap[ab (ia i)]? ≠some nothing:=fun i hi ha=>by
  obtain⟨cur,hc,_⟩:=(h.inn i hi).row ha;exact m7 hc Ud
 refine⟨h.congr (fun _=>(hk a v1.1 v1.2 (hn a (.inl rfl))).1) fun i hi ha=>(hk _ (v2 i hi ha).1 (v2 i hi ha).2 (hn _ (.inr ⟨i,hi,ha,rfl⟩))).1,fun x hx=>?_⟩;rcases hx with rfl|⟨i,hi,ha,rfl⟩
 ·exact(hk _ v1.1 v1.2 (hn _ (.inl rfl))).2
 ·exact(hk _ (v2 i hi ha).1 (v2 i hi ha).2 (hn _ (.inr ⟨i,hi,ha,rfl⟩))).2
theorem Bk.low(h:Bk w N n (pt a) c sl ia ic)(hx:BkF n a ia x):N <=x:=by
 rcases hx with rfl|⟨i,hi,ha,rfl⟩
 ·obtain⟨cur,_,hle,_⟩:=h.out.row (by simp);exact hle
 ·obtain⟨cur,_,hle,_⟩:=(h.inn i hi).row ha;exact hle
theorem Bk.cap{a:Option Addr}(h:Bk w N n a c sl ia ic)(h0:0<n):c≠0:=by
 obtain⟨cur,_,_,hc,_⟩:=h.out.row (h.out.ir0 h0);omega
theorem ug0{m':Gm}{r':F6}(h:j4 p m w s r)(h':j4 p m' u s' r')(hl:LeG m m')(O1:∀e∈l,e<s.en.length)(hk:∀e∈l,(gE s' e).key=(gE s e).key):l.map (eb m')=l.map (eb m)/\at_ r'.ky n (l.map (eb m'))=at_ r.ky n (l.map (eb m)):=by
 have e1:l.map (eb m')=l.map (eb m):=List.map_congr_left fun e he=>(w6 h h' hl (O1 e he)).2.1;refine⟨e1,?_⟩;rw[e1];refine oc0 fun b hb=>?_;obtain⟨e,he,rfl⟩:=List.mem_map.1 hb;obtain⟨l1,l2,_⟩:=w6 h h' hl (O1 e he);have h1:=(h'.en e l1).ky;have h2:=(h.en e (O1 e he)).ky;rw[h2,<- hk e he,<- h1,l2]
end
end
section
variable{p:C5}{fb:Nat->FuncId}{q:PR (C1 p)}{I2:World}{i cb:Nat}{top:List Frame}{m:Gm}{w:World}{o:I6 H4 Lb}{k:Nat}{r:F6}{b:Lb}{e:Nat}
theorem Cc0{s1:H4}(hL:LOk p.n (p.bo i) i o.s b)(hL1:LOk p.n (p.bo i) i s1 b)(hb:Nd0 b.ph=true):s1.st b.j=o.s.st b.j/\∀e∈(o.s.st b.j).l,(gE s1 e).key=(gE o.s e).key:=by
 have h1:=hL.bs hb;have h2:=hL1.bs hb;have O2:s1.st b.j=o.s.st b.j:=h2.1.trans h1.1.symm;refine⟨O2,?_⟩;have h3:T7 s1 b.j=T7 o.s b.j:=h2.2.trans h1.2.symm;unfold T7 at h3;rw[O2]at h3;exact List.map_inj_left.1 h3
theorem Cd0{B n c:Nat}{E:TypeId}{a:Option Addr}{xs:List Value}{u:World}{F F':Nat->Prop}(h:Own w B E 1 a n c xs)(hE:E≠0)(hk:∀b,b<w.heap.size->w.heap[b]? ≠some nothing->¬F b->u.heap[b]? =w.heap[b]?/\¬F' b)(hn:a≠none->¬F (ab a)):Own u B E 1 a n c xs/\(a≠none->¬F' (ab a)):=by
 have v1:a≠none->ab a<w.heap.size/\w.heap[ab a]? ≠some nothing:=fun ha=>by
  obtain⟨cur,hc,_⟩:=h.row ha;exact m7 hc hE
 exact⟨Own.congr h fun ha=>(hk _ (v1 ha).1 (v1 ha).2 (hn ha)).1,fun ha=>(hk _ (v1 ha).1 (v1 ha).2 (hn ha)).2⟩
theorem Ce0{m':Gm}{u:World}{s s':H4}{r':F6}(h:j4 p m w s r)(hl:LeG m m'){j x:Nat}(hj:j<p.n)(hx:x<(s.st j).V0):iaG m' j (s.st j).R3 x=iaG m j (s.st j).R3 x/\icG m' j (s.st j).R3 x=icG m j (s.st j).R3 x:=by
 have h1:=h.gi j x hj hx;unfold iaG icG;rw[hl _ h1.1,hl _ h1.2];exact⟨rfl,rfl⟩
theorem vd1(h:SAt p fb q I2 i cb top m w o k r)(hk:k=o.nts.length)(hf:o.X4= .inl b)(hp:b.ph= .out e){a c N i0:Nat}{ia:Nat->Option Addr}{ic:Nat->Nat}{sl:Nat->List Nat}(hN:p.B <=N)(_hNw:N <=w.heap.size)
  (hsl:sl=at_ r.ky (o.s.st b.j).V0 (((o.s.st b.j).l.filter fun x=>decide (x≠e)).map (eb m)))
  (hO:Own w N 195 1 (pt a) (o.s.st b.j).V0 c (lst (fun x=>.slice (ia x) (sl x).length (ic x)) (o.s.st b.j).V0)) (hI:Own w N 71 1 (ia i0) (sl i0).length (ic i0) ((sl i0).map ptr))
  (R9:∀x,x<(o.s.st b.j).V0->x≠i0->ia x=iaG m b.j (o.s.st b.j).R3 x/\ic x=icG m b.j (o.s.st b.j).R3 x/\sl x=at_ r.ky (o.s.st b.j).V0 ((o.s.st b.j).l.map (eb m)) x)
  (hpr:¬SF p m o.s r a) (hpi:ia i0≠none->¬SF p m o.s r (ab (ia i0))) :
  @Calls prog (J0 (B3 p fb q I2 i cb top)) 56 #[.pointer (some ⟨p.cl b.j,0,none⟩),.p cb,.agg #[.slice (pt a) (o.s.st b.j).V0 c,.i (((o.s.st b.j).l.filter fun x=>decide (x≠e)).length:Nat),.i ((o.s.st b.j).made:Nat)]] w (qu0 p fb q I2 i cb top b N m w o.s r fun v _ _ _ _=>v= .tuple #[]):=by
 refine U91 ?_;intro hj hT;have O2:(B3 p fb q I2 i cb top).stp b=⟨9,oW p.obj 1,(b.j:Nat)⟩:=by
  show Z3 p.obj b=_;unfold Z3;rw[hp]
 have hrd:∀s,(B3 p fb q I2 i cb top).rdy b s=true:=fun s=>by
  show H9 b s=true;unfold H9;rw[hp]
 refine @Calls.mono _ (J0 _) _ _ _ _ _ (Mt0 h.kok (p.cl b.j) p.wb (oW p.obj 1) b.j _ _ _ _ _ _ _ _ _ _ w hT O2 hrd (h.mem.rob h.ok.hW) (h.mem.cl b.j hj) (fun u F' hg=>?_)) fun x u j8=>?_
 ·obtain⟨r1,hw⟩:=h.jy0 hg;exact⟨_,_,_,_,_,hw.mem.cl b.j hj⟩
 ·cases x with
  |outgrown=>exact j8
  |panicked ch=>exact j8
  |returned v=>
   obtain⟨rfl,u0,F',hg,hC,j3⟩:=j8;obtain⟨r1,hw⟩:=h.jy0 hg.goes;generalize (C1 p).sAt q (gh u0 0)=s1 at hw;obtain⟨b1,b2⟩:=Cc0 (h.K4 b hf) hw.K4 (by rw[hp];rfl);obtain⟨hO0,hO1⟩:=Cd0 hO Ud hg.goes.B4.j0 (fun _=>hpr);obtain⟨hI0,hI1⟩:=Cd0 hI Ud hg.goes.B4.j0 hpi;have Ps0:∀x∈(o.s.st b.j).l.filter fun x=>decide (x≠e),x∈(o.s.st b.j).l:=fun x hx=>(List.mem_filter.1 hx).1;have y8:=ug0 (n:=(o.s.st b.j).V0) h.mem hw.mem hw.le (fun x hx=>h.so.l b.j x (Ps0 x hx)) (fun x hx=>b2 x (Ps0 x hx));have zy1:=ug0 (n:=(o.s.st b.j).V0) h.mem hw.mem hw.le (h.so.l b.j) b2;have hbk:=hw.mem.bk b.j hj;rw[b1]at hbk;have hB0:Bk u0 p.B (o.s.st b.j).V0 (pt a) c sl ia ic:=⟨hO0.down hN,fun x hx=>by
    by_cases hx0:x=i0
    ·subst hx0;exact hI0.down hN
    ·obtain⟨t1,t2,t3⟩:=R9 x hx hx0;obtain⟨t4,t5⟩:=Ce0 (u:=u0) (s':=s1) (r':=r1) h.mem hw.le hj hx;have h9:=hbk.inn x hx;rw[t4,t5,zy1.2]at h9;rw[t1,t2,t3];exact h9⟩
   rw[hsl,<- y8.2]at hB0;have V8:Bk u p.B _ _ _ _ _ _:=hB0.other j3 (hw.mem.cl b.j hj) ⟨by decide,by decide⟩;have Kp0:(o.s.st b.j).V0 <=256:=by have h8:=h.so.uf0 h.ok;have h9:=(h.so.sl b.j).2;omega
   have hso:∀j,(s1.st j).V0 <=256:=fun j=>by have h8:=hw.so.uf0 h.ok;have h9:=(hw.so.sl j).2;omega
   have hca:=fun x hx=>ia0 (V8.inn x hx);have hc0:c≠0:=Bk.cap hB0 (h.so.sl b.j).1;have hM:=hw.mem.Xq0 h.ok (made:=(o.s.st b.j).made) hj Kp0 hso j3 hc0 hC V8;have hs:sT p.n i b s1=K7 s1 b.j ⟨(s1.st b.j).held,(s1.st b.j).k6,(o.s.st b.j).l.filter fun x=>decide (x≠e),(o.s.st b.j).made,(o.s.st b.j).V0,(s1.st b.j).R3+1⟩:=by
    unfold sT;rw[hp];show K7 s1 b.j {s1.st b.j with l:=(s1.st b.j).l.filter _,R3:=_}=_;rw[b1]
   refine⟨s1,_,_,h.next hw (by rw[hs];exact hM) (hw.mem.leG hj) j3.tape j3.os j3.output,hw.le.trans (hw.mem.leG hj),⟨Nat.le_trans hg.goes.B4.size j3.size,fun x hxN hx hn hF'=>?_,j3.os.trans hg.goes.B4.os,j3.output.trans hg.goes.B4.output⟩,hw.K4,hw.so,rfl⟩;obtain⟨a1,d1⟩:=hg.goes.B4.j0 x hx hn hF';refine⟨(j3.block x (Nat.lt_of_lt_of_le hx hg.goes.B4.size) fun z=>d1 (by rw[hw.F,Option.some.inj z];exact SF.cl hj)).trans a1,fun z=>?_⟩;rw[hs]at z;rcases SF.Xq0 h.ok hj Kp0 hso hca z with z|z|⟨y,hy,hya,z⟩
   ·exact d1 (by rw[hw.F];exact z)
   ·obtain⟨cur,_,hle,_⟩:=hO.row (by simp);have hle:N <=a:=hle;omega
   ·by_cases hy0:y=i0
    ·subst hy0;obtain⟨cur,_,hle,_⟩:=hI.row hya;omega
    ·obtain⟨t1,t2,t3⟩:=R9 y hy hy0;obtain⟨t4,t5⟩:=Ce0 (u:=u0) (s':=s1) (r':=r1) h.mem hw.le hj hy;refine d1 ?_;rw[hw.F,z,t1,<- t4,<- b1];exact SF.inn hj (by rw[b1];exact hy) (by rw[b1,t4,<- t1];exact hya)
end
theorem SF.Ko0{p:C5}{m:Gm}{s s':H4}{r:F6}{z:Nat}(h:SF p m s' r z)(h1:s'.st=s.st)(h2:s'.en=s.en):SF p m s r z:=by
 unfold SF at h⊢;rw[h1,h2]at h;exact h
section
variable{p:C5}{fb:Nat->FuncId}{q:PR (C1 p)}{I2:World}{i cb:Nat}{top:List Frame}{m:Gm}{w:World}{o:I6 H4 Lb}{k:Nat}{r:F6}{b:Lb}
theorem ml1(h:SAt p fb q I2 i cb top m w o k r)(hk:k=o.nts.length)(hf:o.X4= .inl b)(hp:b.ph= .make){a c N nu b0 lm lt cn:Nat}{sa:Value}{ia:Nat->Option Addr}{ic:Nat->Nat}(hN:p.B <=N)(_hNw:N <=w.heap.size)(hnu:nu=b.j+(o.s.st b.j).made*p.n)(H2:b.q.size <=1000000000000)
  (hE:I0 w b0 #[.string b.q,.i (nu:Nat),.p lm,.p cn] 127) (hM:I0 w lm #[.iface 242 (.p lt)] 187)
  (hL:I0 w lt #[.i (oW p.obj 2),.i (nu:Nat),.bool false,.i 0] 244) (hC9:I0 w cn #[.i (oW p.obj 3),.i (nu:Nat),.p p.wb,.i 1,sa] 191)
  (hlo:N <=b0/\N <=lm/\N <=lt/\N <=cn) (hnf:¬SF p m o.s r b0/\¬SF p m o.s r lm/\¬SF p m o.s r lt/\¬SF p m o.s r cn)
  (hB:Bk w N (wn (o.s.st b.j).V0 (o.s.st b.j).l.length) (pt a) c (at_ (P3 r.ky b0 b.q) (wn (o.s.st b.j).V0 (o.s.st b.j).l.length) ((o.s.st b.j).l.map (eb m) ++ [b0])) ia ic) (hpr:∀x,BkF (wn (o.s.st b.j).V0 (o.s.st b.j).l.length) a ia x->¬SF p m o.s r x) :
  @Calls prog (J0 (B3 p fb q I2 i cb top)) 56 #[.pointer (some ⟨p.cl b.j,0,none⟩),.p cb,.agg #[.slice (pt a) (wn (o.s.st b.j).V0 (o.s.st b.j).l.length) c,.i (((o.s.st b.j).l.length+1:Nat):Int),.i (((o.s.st b.j).made+1:Nat):Int)]] w (qu0 p fb q I2 i cb top b N m w o.s r fun v s1 m1 _ _=>v= .tuple #[]/\eb m1 s1.en.length=b0):=by
 refine U91 ?_;intro hj hT;have O2:(B3 p fb q I2 i cb top).stp b=⟨9,oW p.obj 1,(b.j:Nat)⟩:=by
  show Z3 p.obj b=_;unfold Z3;rw[hp]
 have hrd:∀s,(B3 p fb q I2 i cb top).rdy b s=true:=fun s=>by
  show H9 b s=true;unfold H9;rw[hp]
 refine @Calls.mono _ (J0 _) _ _ _ _ _ (Mt0 h.kok (p.cl b.j) p.wb (oW p.obj 1) b.j _ _ _ _ _ _ _ _ _ _ w hT O2 hrd (h.mem.rob h.ok.hW) (h.mem.cl b.j hj) (fun u F' hg=>?_)) fun x u j8=>?_
 ·obtain⟨r1,hw⟩:=h.jy0 hg;exact⟨_,_,_,_,_,hw.mem.cl b.j hj⟩
 ·cases x with
  |outgrown=>exact j8
  |panicked ch=>exact j8
  |returned v=>
   obtain⟨rfl,u0,F',hg,hC,j3⟩:=j8;obtain⟨r1,hw⟩:=h.jy0 hg.goes;generalize (C1 p).sAt q (gh u0 0)=s1 at hw;obtain⟨b1,b2⟩:=Cc0 (h.K4 b hf) hw.K4 (by rw[hp];rfl);obtain⟨hB0,Bj1⟩:=Bk.B4 hB hg.goes.B4.j0 hpr;have y8:=ug0 (n:=wn (o.s.st b.j).V0 (o.s.st b.j).l.length) h.mem hw.mem hw.le (h.so.l b.j) b2;obtain⟨hE0,hE1⟩:=hg.be0 hE (by simp) hnf.1;obtain⟨hM0,hM1⟩:=hg.be0 hM (by simp) hnf.2.1;obtain⟨hL0,hL1⟩:=hg.be0 hL (by simp) hnf.2.2.1;obtain⟨hC0,hC1⟩:=hg.be0 hC9 (by simp) hnf.2.2.2;rw[hw.F]at hE1 hM1 hL1 hC1;have hA:=hw.mem.el0 hw.so.l (x:=⟨b.q,nu,false,1⟩) H2 ⟨Nat.le_trans hN hlo.1,Nat.le_trans hN hlo.2.1,Nat.le_trans hN hlo.2.2.1,Nat.le_trans hN hlo.2.2.2⟩ hE0 hM0 hL0 hC0 ⟨hE1,hL1,hC1⟩;have ve1:=hw.mem.leN (b:=b0) (lm:=lm) (lt:=lt) (cn:=cn) (nu:=nu);have ka1:u0.grownBy u (some (p.cl b.j)):=j3;have D5:eb (cu0 (gm u0) s1.en.length b0 lm lt cn nu) s1.en.length=b0:=by unfold eb;rw[(rh0 _ _ _ _ _ _ _).1];rfl
   have Pu0:((o.s.st b.j).l ++ [s1.en.length]).map (eb (cu0 (gm u0) s1.en.length b0 lm lt cn nu))=(o.s.st b.j).l.map (eb m) ++ [b0]:=by
    rw[List.map_append,List.map_singleton,D5,<- y8.1];congr 1;refine List.map_congr_left fun e he=>?_;have O1:e<s1.en.length:=hw.so.l b.j e (by rw[b1];exact he);unfold eb;rw[(ob0 (gm u0) (Nat.ne_of_lt O1)).1]
   have hky:at_ (P3 r1.ky b0 b.q) (wn (o.s.st b.j).V0 (o.s.st b.j).l.length) ((o.s.st b.j).l.map (eb m) ++ [b0])=at_ (P3 r.ky b0 b.q) (wn (o.s.st b.j).V0 (o.s.st b.j).l.length) ((o.s.st b.j).l.map (eb m) ++ [b0]):=oc0 fun b' Z8=>by
    by_cases e0:b'=b0
    ·subst e0;rw[I1,I1]
    ·rw[B1 e0,B1 e0];rcases List.mem_append.1 Z8 with z|z
     ·obtain⟨e,he,rfl⟩:=List.mem_map.1 z;have O1:=h.so.l b.j e he;obtain⟨l1,l2,_⟩:=w6 h.mem hw.mem hw.le O1;have h1:=(hw.mem.en e l1).ky;have h2:=(h.mem.en e O1).ky;rw[h2,<- b2 e he,<- h1,l2]
     ·exact absurd (List.mem_singleton.1 z) e0
   have V8:Bk u p.B (wn (o.s.st b.j).V0 (o.s.st b.j).l.length) (pt a) c (at_ (P3 r1.ky b0 b.q) (wn (o.s.st b.j).V0 (o.s.st b.j).l.length) (((o.s.st b.j).l ++ [s1.en.length]).map (eb (cu0 (gm u0) s1.en.length b0 lm lt cn nu)))) ia ic:=by
    rw[Pu0,hky];exact(hB0.other j3 (hw.mem.cl b.j hj) ⟨by decide,by decide⟩).down hN
   have hwn:=mf1 (h.so.sl b.j).1 (h.so.sl b.j).2 (h.so.ll b.j);have Kp0:wn (o.s.st b.j).V0 (o.s.st b.j).l.length <=256:=by have h8:=h.so.uf0 h.ok;have h9:=hwn.2;omega
   have hso:∀j,((el0 s1 ⟨b.q,nu,false,1⟩).st j).V0 <=256:=fun j=>by
    have h8:=hw.so.uf0 h.ok;have h9:=(hw.so.sl j).2;show(s1.st j).V0 <=256;omega
   have hca:=fun i hi=>ia0 (V8.inn i hi);have hM2:=hA.Xq0 h.ok (made:=(o.s.st b.j).made+1) (l:=(o.s.st b.j).l ++ [s1.en.length]) hj Kp0 hso j3 (Bk.cap hB hwn.1) (by rw[List.length_append];exact hC) V8;have hs1:(sT p.n i b s1).st=(K7 (el0 s1 ⟨b.q,nu,false,1⟩) b.j ⟨((el0 s1 ⟨b.q,nu,false,1⟩).st b.j).held,((el0 s1 ⟨b.q,nu,false,1⟩).st b.j).k6,(o.s.st b.j).l ++ [s1.en.length],(o.s.st b.j).made+1,wn (o.s.st b.j).V0 (o.s.st b.j).l.length,((el0 s1 ⟨b.q,nu,false,1⟩).st b.j).R3+1⟩).st:=by
    unfold sT;rw[hp];show P3 s1.st b.j {s1.st b.j with l:=(s1.st b.j).l ++ [s1.en.length],made:=(s1.st b.j).made+1,V0:=wn (s1.st b.j).V0 (s1.st b.j).l.length,R3:=(s1.st b.j).R3+1}=P3 s1.st b.j ⟨(s1.st b.j).held,(s1.st b.j).k6,_,_,_,(s1.st b.j).R3+1⟩;rw[b1]
   have hs2:(sT p.n i b s1).en=(K7 (el0 s1 ⟨b.q,nu,false,1⟩) b.j ⟨((el0 s1 ⟨b.q,nu,false,1⟩).st b.j).held,((el0 s1 ⟨b.q,nu,false,1⟩).st b.j).k6,(o.s.st b.j).l ++ [s1.en.length],(o.s.st b.j).made+1,wn (o.s.st b.j).V0 (o.s.st b.j).l.length,((el0 s1 ⟨b.q,nu,false,1⟩).st b.j).R3+1⟩).en:=by
    unfold sT;rw[hp];show s1.en ++ [⟨b.q,b.j+(s1.st b.j).made*p.n,false,1⟩]=s1.en ++ [⟨b.q,nu,false,1⟩];rw[b1,hnu]
   have bw0:=hA.leG (a:=a) (c:=c) (ia:=ia) (ic:=ic) hj;refine⟨s1,_,_,h.next hw (hM2.Ko0 hs1 hs2) (ve1.trans bw0) j3.tape j3.os j3.output,hw.le.trans (ve1.trans bw0),⟨Nat.le_trans hg.goes.B4.size j3.size,fun x hxN hx hn hF'=>?_,j3.os.trans hg.goes.B4.os,j3.output.trans hg.goes.B4.output⟩,hw.K4,hw.so,rfl,?_⟩
   ·obtain⟨a1,d1⟩:=hg.goes.B4.j0 x hx hn hF';refine⟨(j3.block x (Nat.lt_of_lt_of_le hx hg.goes.B4.size) fun z=>d1 (by rw[hw.F,Option.some.inj z];exact SF.cl hj)).trans a1,fun z=>?_⟩;rcases SF.Xq0 h.ok hj Kp0 hso hca (z.Ko0 hs1 hs2)with z|z
    ·rcases SF.el0 (x:=⟨b.q,nu,false,1⟩) z with z|z
     ·exact d1 (by rw[hw.F];exact z)
     ·omega
    ·have:=Bk.low hB z;omega
   ·unfold eb at D5⊢;rw[Ni0];exact D5
end
structure Tn(p:C5)(fb:Nat->FuncId)(q:PR (C1 p))(I2:World)(i cb:Nat)(top:List Frame)(N:Nat)(m0:Gm)(w0:World)(F0:Nat->Prop)(m:Gm)(w:World)(o:I6 H4 Lb)(k:Nat)(r:F6):Prop where
 at_:SAt p fb q I2 i cb top m w o k r
 le:LeG m0 m
 y6:Prv N w0 F0 w (SF p m o.s r)
theorem Prv.refl(N:Nat)(w:World)(F:Nat->Prop):Prv N w F w F:=⟨Nat.le_refl _,fun _ _ _ _ h=>⟨rfl,h⟩,rfl,rfl⟩
section
variable{p:C5}{fb:Nat->FuncId}{q:PR (C1 p)}{I2:World}{i cb:Nat}{top:List Frame}{N:Nat}{m0 m m1:Gm}{w0 w w' u:World}{F0:Nat->Prop}{o:I6 H4 Lb}{k:Nat}{r r1:F6}{b:Lb}{s1:H4}
theorem Tn.start(h:SAt p fb q I2 i cb top m w o k r):Tn p fb q I2 i cb top w.heap.size m w (SF p m o.s r) m w o k r:=⟨h,LeG.refl _,Prv.refl _ _ _⟩
theorem Tn.j0(h:Tn p fb q I2 i cb top N m0 w0 F0 m w o k r)(hb:Below w.heap.size w w'):Tn p fb q I2 i cb top N m0 w0 F0 m w' o k r:=
 ⟨h.at_.j0 hb,h.le,Nat.le_trans h.y6.size hb.size,fun b hN hl hn hF=>by
  obtain⟨a,c⟩:=h.y6.j0 b hN hl hn hF;exact⟨(hb.block b (Nat.lt_of_lt_of_le hl h.y6.size)).trans a,c⟩,hb.os.trans h.y6.os,hb.output.trans h.y6.output⟩
theorem Tn.go{N':Nat}(h:Tn p fb q I2 i cb top N m0 w0 F0 m w o k r)(hN:N <=N')(h1:SAt p fb q I2 i cb top m1 u (L7 p.n (p.bo i) i b s1) 0 r1)(h2:LeG m m1)(h3:Prv N' w (SF p m o.s r) u (SF p m1 (sT p.n i b s1) r1)):Tn p fb q I2 i cb top N m0 w0 F0 m1 u (L7 p.n (p.bo i) i b s1) 0 r1:=
 ⟨h1,h.le.trans h2,by rw[Ha0];exact h.y6.trans (h3.down hN)⟩
theorem Tn.tb(h:Tn p fb q I2 i cb top N m0 w0 F0 m w o k r):I0 w p.tb (arr 131 (bg0 p.wb p.obj p.n p.rw p.cl p.n p.n)) 92:=h.at_.mem.rob h.at_.ok.hT
theorem dc1{n:Nat}(hn:0<n){ky:Nat->ByteArray}{l:List Nat}(q:ByteArray):fnd ky (at_ ky n l (slot n q)) q=fnd ky l q:=by
 unfold fnd at_
 rw[List.find?_filter];congr 1;funext x;by_cases h:ky x=q
 ·simp[h]
 ·simp[h]
theorem j4.find(h:j4 p m w o.s r)(hso:SOk p.n p.m (xp0 p) o.s){j:Nat}(q:ByteArray):fnd r.ky (at_ r.ky (o.s.st j).V0 ((o.s.st j).l.map (eb m)) (slot (o.s.st j).V0 q)) q=(dj0 o.s j q).map (eb m):=by
 rw[dc1 (hso.sl j).1];unfold fnd dj0;rw[List.find?_map];congr 1;have key:∀l:List Nat,(∀e∈l,e<o.s.en.length)->l.find? ((fun b=>decide (r.ky b=q)) ∘ eb m)=l.find? (fun e=>decide ((gE o.s e).key=q)):=fun l hl=>by
  induction l with
  |nil=>rfl
  |cons x l ih=>
   have hx:r.ky (eb m x)=(gE o.s x).key:=(h.en x (hl x (List.mem_cons_self ..))).ky;rw[List.find?_cons,List.find?_cons];simp only[Function.comp,hx];rw[ih fun e he=>hl e (List.mem_cons_of_mem _ he)]
 exact key _ (hso.l j)
theorem j4.Dw0(h:j4 p m w o.s r)(hso:SOk p.n p.m (xp0 p) o.s){j:Nat}:bv0 w r.ky ((o.s.st j).l.map (eb m)):=⟨fun b hb=>by
 obtain⟨e,he,rfl⟩:=List.mem_map.1 hb;have hE:=h.en e (hso.l j e he);have h1:=hE.hE;unfold enC at h1;rw[<- hE.ky]at h1;exact⟨by rw[hE.ky];exact hE.sz,_,_,_,h1⟩⟩
end
section
variable{n i e:Nat}{ops:List SOp}{lb:Lb}{s:H4}
theorem Hi0{P:Program}[Ctx P]{ρ:Operand->Value}{w:World}{d:Option Nat}{ty:TypeId}{ps:String}{af:Array Edge}{g:Option (Nat×Bool)}{fn:Fn}{x:Operand}{v:Value}(h:ρ x=v):Does P (execOp ρ ⟨d,.makeFunc fn #[x] #[],ty,ps,af,g⟩) w (.val (.func fn #[v] #[])) w:=by
 have h1:=lx0 (P:=P) (ρ:=ρ) (w:=w) (d:=d) (ty:=ty) (ps:=ps) (af:=af) (g:=g) (fn:=fn) (xs:=#[x]) (ys:=#[]);simpa [h]using h1
theorem Xv0(hp:lb.ph= .bn0):L7 n ops i lb s=⟨K7 s lb.j {s.st lb.j with k6:=(s.st lb.j).k6+1},[],.inl {lb with ph:=.look}⟩:=by unfold L7;rw[hp]
theorem Xw0(hp:lb.ph= .look)(hf:dj0 s lb.j lb.q=some e):L7 n ops i lb s=⟨s,[],.inl {lb with ph:=.more e,nu:=(gE s e).num}⟩:=by unfold L7;rw[hp];simp only[hf]
theorem Xx0(hp:lb.ph= .look)(hf:dj0 s lb.j lb.q=none):L7 n ops i lb s=⟨s,[],.inl {lb with ph:=.mo0}⟩:=by unfold L7;rw[hp];simp only[hf]
theorem dd1(hp:lb.ph= .more e):L7 n ops i lb s=⟨ct0 s e 1,[],.inl {lb with ph:=.run e}⟩:=by unfold L7;rw[hp]
theorem mm1(hp:lb.ph= .run e):L7 n ops i lb s=I9 n (ops.drop lb.k) lb.k (P3 lb.has lb.to (some e)) (K7 s lb.j {s.st lb.j with k6:=(s.st lb.j).k6-1}) []:=by unfold L7;rw[hp]
theorem de1(hp:lb.ph= .mo0):L7 n ops i lb s=⟨K7 s lb.j {s.st lb.j with k6:=(s.st lb.j).k6-1},[],.inl {lb with ph:=.lck}⟩:=by unfold L7;rw[hp]
end
section
variable{P:Program}[Ctx P]{Z:Goroutine->World->Prop}{b:Frame}{k:List Item}{cs:List Frame}{n:Nat}{e:Env}{w:World}{ops:Array Oper}
theorem df1{D:K3}(hZ:Ctx.Zs P Z)(hb:b.kind≠.early)(hro:b.roundOf=none){i:Nat}{rest:List Nat}{ty:TypeId}{ps:String}{af:Array Edge}{x y:Operand}{ats:Array TypeId}{a v:Value}{f:FuncId}(ho:ops[i]? =some ⟨none,.defer {callee:=.value x,args:=#[y],argTypes:=ats},ty,ps,af,none⟩)(hx:ev e x= .func (.func f) #[a] #[])(hy:ev e y=v)
  (h:@ZA (D.push {target:=.fn (.func f) #[],args:=#[a,v]}) Z n b cs e (.inRegion ops rest::k) w):@ZA D Z n b cs e (.inRegion ops (i::rest)::k) w:=by
 have e1:(#[a] ++ #[v]:Array Value)=#[a,v]:=by simp
 refine ZA.mh1 hZ hb hro (vs:=#[v]) (bs:=#[a]) ho hx (by simp[hy]) ?_;rw[e1];exact h
end
section
variable{p:C5}{fb:Nat->FuncId}{q:PR (C1 p)}{I2:World}{i cb:Nat}{top:List Frame}{w u:World}{j:Nat}
section
variable{Z:Goroutine->World->Prop}{n:Nat}{b:Frame}{cs:List Frame}{ch:List PanicEntry}{e:Env}{D:K3}
theorem Xy0(h:C6 p)(hj:j<p.n)(hh:o9 (B3 p fb q I2 i cb top) w u):@CallsD prog (J0 (B3 p fb q I2 i cb top)) 103 #[.pointer (some ⟨p.rw j,0,none⟩),.p cb] u (da0 u):=by
 obtain⟨F',r1,-,hM⟩:=hh.inv;exact Eg0 (Sys.kok (xk0 h)) _ _ _ _ _ _ u hh.g2 (hM.rob (h.hR j hj)) (hM.lk j hj)
theorem Xz0(h:C6 p)(hj:j<p.n)(hh:o9 (B3 p fb q I2 i cb top) w u):@CallsD prog (J0 (B3 p fb q I2 i cb top)) 53 #[.pointer (some ⟨p.rw j,0,none⟩),.p cb] u (da0 u):=by
 obtain⟨F',r1,-,hM⟩:=hh.inv;exact Hf0 (Sys.kok (xk0 h)) _ _ _ _ _ _ u hh.g2 (hM.rob (h.hR j hj)) (hM.lk j hj)
theorem Ya0(h:C6 p)(hj:j<p.n)(hZ:@Ctx.Zs prog (J0 (B3 p fb q I2 i cb top)) Z)(u7:A6 ch)(hh:o9 (B3 p fb q I2 i cb top) w u)(hk:∀ch' u',A6 ch'->o9 (B3 p fb q I2 i cb top) w u'->@ZP D Z n b cs ch' e u'):@ZP (D.push {target:=.fn (.func 103) #[],args:=#[.pointer (some ⟨p.rw j,0,none⟩),.p cb]}) Z n b cs ch e u:=by
 letI:Ctx prog:=J0 (B3 p fb q I2 i cb top);refine ZP.defer (R:=da0 u) hZ func103 Ts0 rfl u7 ?_ (fun v w' hx=>hx.elim) (fun ch' w' hx=>hk _ _ (A6.app u7 hx.1) (hh.grow (Sys.kok (xk0 h)) hx.2.1 hx.2.2)) (fun w' hx=>hx.elim);simpa using Xy0 h hj hh
theorem ph0(h:C6 p)(hj:j<p.n)(hZ:@Ctx.Zs prog (J0 (B3 p fb q I2 i cb top)) Z)(u7:A6 ch)(hh:o9 (B3 p fb q I2 i cb top) w u)(hk:∀ch' u',A6 ch'->o9 (B3 p fb q I2 i cb top) w u'->@ZP D Z n b cs ch' e u'):@ZP (D.push {target:=.fn (.func 53) #[],args:=#[.pointer (some ⟨p.rw j,0,none⟩),.p cb]}) Z n b cs ch e u:=by
 letI:Ctx prog:=J0 (B3 p fb q I2 i cb top);refine ZP.defer (R:=da0 u) hZ func53 Jj0 rfl u7 ?_ (fun v w' hx=>hx.elim) (fun ch' w' hx=>hk _ _ (A6.app u7 hx.1) (hh.grow (Sys.kok (xk0 h)) hx.2.1 hx.2.2)) (fun w' hx=>hx.elim);simpa using Xz0 h hj hh
end
end
theorem Yb0{p:C5}{fb:Nat->FuncId}{q:PR (C1 p)}{I2:World}{i cb:Nat}{top:List Frame}{m:Gm}{w0:World}{o:I6 H4 Lb}{k:Nat}{r:F6}{lb:Lb}(h:SAt p fb q I2 i cb top m w0 o k r)(hk:k=o.nts.length)(hf:o.X4= .inl lb)(hp:lb.ph= .bn0)(hjq:jb0 p.n lb.q=lb.j)(hqs:lb.q.size <=1000000000000) :
  @Calls prog (J0 (B3 p fb q I2 i cb top)) 58 #[.p p.tb,.p cb,.string lb.q] w0 (o3 (B3 p fb q I2 i cb top) w0 fun v u=>∃m1 o1 r1,Tn p fb q I2 i cb top w0.heap.size m w0 (SF p m o.s r) m1 u o1 0 r1 /\
   ((∃e s',v= .tuple #[.pointer (some ⟨eb m1 e,0,none⟩),.bool true]/\o1=I9 p.n ((p.bo i).drop lb.k) lb.k (P3 lb.has lb.to (some e)) s' []/\e<s'.en.length)\/(∃s',v= .tuple #[.pointer none,.bool false]/\o1=⟨s',[],.inl {lb with ph:=.lck}⟩))):=by
 letI:Ctx prog:=J0 (B3 p fb q I2 i cb top);refine X8 (n:=54) func58 rfl rfl fun Z hZ cs W5=>?_;have hb:(base 58).kind≠.early:=by decide
 have hN:=Tn.start h;have hj:=(h.K4 lb hf).j;have hok:=h.ok;have hn0:=h.ok.n.1;have Pw0:=h.ok.n.2;refine U4 ?_;refine L.va (Z9 rfl)<|U76 ?_;refine U14 ?_;refine U438 ?_;rintro _ w9 ⟨rfl,hw9⟩;rw[hw9,hjq];clear hw9 w9;refine U221 ?_;refine U115 ?_;refine U343 ?_;refine L.Y2 rfl (B2 rfl rfl func102 rfl rm1 rfl) (cz1 hN.at_ hk hf hp) ?_ ?_ (fun _ h=>h)
 ·rintro v w ⟨s1,m1,r1,g1,g2,g3,g4,g5,rfl⟩;have hN:=hN.go hN.y6.size g1 g2 g3;rw[Xv0 hp]at hN;clear g1 g2 g3;refine U150 ?_;refine U18 ?_;refine U225 ?_;refine U316 ?_;refine U13 ?_;refine ZA.upto hZ hb 2 rfl rfl (R:=fun e' w'=>ZA _ _ _ _ e' _ w') ?_ (fun _ _ h=>h);refine U350 ?_;refine U312 ?_;letI D1:K3:=K3.push Rt0 {target:=.fn (.func 103) #[],args:=#[.pointer (some ⟨p.rw lb.j,0,none⟩),.p cb]};refine U55 ?_;refine U115 ?_;refine U178 ?_;refine U340 ?_;refine L.Y2 rfl (B2 rfl rfl func39 rfl ba1 rfl) (Xt0 (b:={lb with ph:=.look}) hN.at_ rfl rfl (.inl rfl)) ?_ ?_ (fun _ h=>h)
  ·rintro v w ⟨s2,m2,r2,g1,g2,g3,g4,g5,rfl⟩;have hN:=hN.go hN.y6.size g1 g2 g3;cases hfd:dj0 s2 lb.j lb.q with
   |none=>
   ·rw[Xx0 (lb:={lb with ph:=.look}) rfl hfd]at hN;refine L.va G5<|U90 ?_;intro hso hM hfi;rw[hfd]at hfi;refine U113 ?_;intro bw0 hsl hll;rintro _ w ⟨rfl,A1⟩;rw[hfi];have hN:=hN.j0 A1;refine U249 ?_;refine U319 ?_;refine U10 ?_;refine ZA.seq hZ<|U78 ?_;refine U137 ?_;refine U4 ?_;refine L.va G5<|L.va (n8 rfl)<|L.va Q5<|U76 ?_;refine ZA.ret hZ ?_;have L3:=ha1 (b:={lb with ph:=.mo0}) hN.at_ rfl rfl (.inr rfl)
    refine ZR.defer hZ func103 Ts0 rfl (by simpa using L3) (fun v u hx=>?_) (fun ch u hx=>?_) (fun u hx=>hx)
    ·obtain⟨s4,m4,r4,g1,g2,g3,g4,g5,rfl⟩:=hx;have hN:=hN.go hN.y6.size g1 g2 g3;rw[de1 (lb:={lb with ph:=.mo0}) rfl]at hN;refine U508 ?_;exact⟨m4,_,r4,hN,.inr ⟨_,rfl,rfl⟩⟩
    ·exact ZP.leave rfl func58 W5 ⟨hx.1,hx.2.at hN.y6.os hN.y6.output⟩
   |some e=>
   ·rw[Xw0 (lb:={lb with ph:=.look}) rfl hfd]at hN;refine L.va G5<|U90 ?_;intro hso hM hfi;rw[hfd]at hfi;refine U113 ?_;intro bw0 hsl hll;rintro _ w ⟨rfl,A1⟩;rw[hfi];have hN:=hN.j0 A1;refine U249 ?_;refine U100 ?_;refine U10 ?_;refine ZA.seq hZ<|U78 ?_;refine U57 ?_;have he:=(hN.at_.K4 _ rfl).e e rfl;have hE:=hN.at_.mem.en e he
    refine U38 ?_;refine U11 ?_;refine U424 ?_;refine L.va (D3 rfl)<|L.Y2 rfl (D6 rfl rfl rfl func50 rfl js1 rfl) (Xu0 (b:={lb with ph:=.more e,nu:=(gE s2 e).num}) hN.at_ rfl rfl (.inl rfl)) ?_ ?_ (fun _ h=>h)
    ·rintro v w ⟨s3,m3,r3,g1,g2,g3,g4,g5,rfl⟩;have hN:=hN.go hN.y6.size g1 g2 g3;rw[dd1 (e:=e) (lb:={lb with ph:=.more e,nu:=(gE s2 e).num}) rfl]at hN;have Yc0:=g2 _ hE.g.1;clear g1 g3;refine U10 ?_;refine U14 ?_;refine L.va (n8 rfl)<|L.va (Z9 rfl)<|U76 ?_;refine ZA.ret hZ ?_;have L3:=ha1 (b:={lb with ph:=.run e,nu:=(gE s2 e).num}) hN.at_ rfl rfl (.inl ⟨e,rfl⟩)
     refine ZR.defer hZ func103 Ts0 rfl (by simpa using L3) (fun v u hx=>?_) (fun ch u hx=>?_) (fun u hx=>hx)
     ·obtain⟨s4,m4,r4,g1,g2,g3,g4,g5,rfl⟩:=hx;have hN:=hN.go hN.y6.size g1 g2 g3;rw[mm1 (e:=e) (lb:={lb with ph:=.run e,nu:=(gE s2 e).num}) rfl]at hN;refine U508 ?_;have heb:eb m4 e=eb m2 e:=by
       have h9:=g2 (9*e) (by rw[Yc0];exact hE.g.1);unfold eb;rw[h9,Yc0]
      exact⟨m4,_,r4,hN,.inl ⟨e,_,by rw[heb];rfl,rfl,g4.e _ rfl⟩⟩
     ·exact ZP.leave rfl func58 W5 ⟨hx.1,hx.2.at hN.y6.os hN.y6.output⟩
    ·rintro ch u ⟨u7,hh⟩;exact Ya0 hok hj hZ u7 (hh.at hN.y6.os hN.y6.output) fun ch' u' h1 h2=>ZP.leave rfl func58 W5 ⟨h1,h2⟩
  ·rintro ch u ⟨u7,hh⟩;exact Ya0 hok hj hZ u7 (hh.at hN.y6.os hN.y6.output) fun ch' u' h1 h2=>ZP.leave rfl func58 W5 ⟨h1,h2⟩
 ·rintro ch u ⟨u7,hh⟩;exact ZP.leave rfl func58 W5 ⟨u7,hh.at hN.y6.os hN.y6.output⟩
section
variable{n n' b e j:Nat}{ky:Nat->ByteArray}{l:List Nat}{f:Nat->Nat}{s:H4}
theorem Tn.H6{p:C5}{fb:Nat->FuncId}{q:PR (C1 p)}{I2:World}{i cb:Nat}{top:List Frame}{N:Nat}{m0 m:Gm}{w0 w w':World}{F0:Nat->Prop}{o:I6 H4 Lb}{k:Nat}{r:F6}(h:Tn p fb q I2 i cb top N m0 w0 F0 m w o k r){b:Nat}(hg:w.grownBy w' (some b))(hn:¬SF p m o.s r b)(hN:N <=b):Tn p fb q I2 i cb top N m0 w0 F0 m w' o k r:=
 ⟨h.at_.H6 hg hn,h.le,Nat.le_trans h.y6.size hg.size,fun c hc hl hx hF=>by
  obtain⟨a,d⟩:=h.y6.j0 c hc hl hx hF;exact⟨(hg.block c (Nat.lt_of_lt_of_le hl h.y6.size) fun e=>by cases e;omega).trans a,d⟩,hg.os.trans h.y6.os,hg.output.trans h.y6.output⟩
theorem Hj0(h0:0<n)(h:n'=n\/n'=2*n)(k:ByteArray):slot n k=slot n' k%n:=by
 rcases h with rfl|rfl
 ·exact(Nat.mod_eq_of_lt (nv0 h0 k)).symm
 ·unfold slot;generalize R9 k/64=x;have h2:0 <=x%((2*n:Nat):Int):=Int.emod_nonneg _ Uo;have e:(x%((2*n:Nat):Int))%(n:Int)=x%n:=Int.emod_emod_of_dvd x ⟨2,by omega⟩;rw[<- e,Int.toNat_emod h2 Uo,Int.toNat_natCast]
theorem vf1(h0:0<n)(h:n'=n\/n'=2*n)(l:List Nat):at_ ky n' (fl (at_ ky n l) n)=at_ ky n' l:=by
 funext j;have key:∀u,at_ ky n' (at_ ky n l u) j=if j%n=u then at_ ky n' l j else []:=fun u=>by
  unfold at_
  rw[List.filter_filter];split
  ·rename_i hu;refine List.filter_congr fun b _=>?_;by_cases hb:slot n' (ky b)=j
   ·have:=Hj0 h0 h (ky b);rw[hb,hu]at this;simp[hb,this]
   ·simp[hb]
  ·rename_i hu;refine List.filter_eq_nil_iff.2 fun b _=>?_;have:=Hj0 h0 h (ky b);by_cases hb:slot n' (ky b)=j
   ·rw[hb]at this;simp[hb,this,hu]
   ·simp[hb]
 have gen:∀m,at_ ky n' (fl (at_ ky n l) m) j=if j%n<m then at_ ky n' l j else []:=fun m=>by
  induction m with
  |zero=>rfl
  |succ m ih=>
   rw[ce0];have e1:at_ ky n' (fl (at_ ky n l) m++at_ ky n l m) j=at_ ky n' (fl (at_ ky n l) m) j++at_ ky n' (at_ ky n l m) j:=by
    unfold at_;rw[List.filter_append]
   rw[e1,ih,key m];by_cases h1:j%n<m
   ·rw[if_pos h1,if_neg Uo,if_pos Uo,List.append_nil]
   ·rw[if_neg h1];by_cases h2:j%n=m
    ·rw[if_pos h2,if_pos Uo];rfl
    ·rw[if_neg h2,if_neg Uo];rfl
 rw[gen n,if_pos (Nat.mod_lt _ h0)]
theorem mo1(h0:0<n)(h:n'=n\/n'=2*n)(l:List Nat)(b:Nat):at_ ky n' (fl (at_ ky n l) n ++ [b])=at_ ky n' (l ++ [b]):=by
 funext j;rw[Ka0,Ka0,vf1 h0 h l]
theorem vg1(n k:Nat):wn n k=n\/wn n k=2*n:=by unfold wn;split;exact .inr rfl;exact .inl rfl
theorem dg1{k:Nat}{q:ByteArray}{L:List Nat}(h0:0<n)(hb:∀x∈L,x≠b):at_ (P3 ky b q) (wn n k) (fl (at_ ky n L) n ++ [b])=at_ (P3 ky b q) (wn n k) (L ++ [b]):=by
 have e:at_ (P3 ky b q) n L=at_ ky n L:=oc0 fun x hx=>B1 (hb x hx)
 rw[<- e,mo1 h0 (vg1 n k)]
theorem mp1(l:List Nat):(fl (at_ ky n l) n).length <=n*l.length:=by
 have gen:∀m,(fl (at_ ky n l) m).length <=m*l.length:=fun m=>by
  induction m with
  |zero=>simp[fl]
  |succ m ih=>rw[ce0,List.length_append,Nat.succ_mul];exact Nat.add_le_add ih (qi0 ..)
 exact gen n
theorem vh1(h:b∈fl (at_ ky n l) n):b∈l:=by
 obtain⟨j,_,hb⟩:=ua0.1 h;exact(List.mem_filter.1 hb).1
theorem mq1{i0:Nat}(hf:∀x∈l,f x=f e->x=e):wo (at_ ky n (l.map f) i0) (f e)=at_ ky n ((l.filter fun x=>decide (x≠e)).map f) i0:=by
 unfold wo at_
 rw[List.filter_filter,List.filter_map,List.filter_map,List.filter_filter];congr 1;refine List.filter_congr fun x hx=>?_;show(decide (f x≠f e)&&decide (slot n (ky (f x))=i0))=(decide (slot n (ky (f x))=i0)&&decide (x≠e));rw[Bool.and_comm];congr 1;by_cases h:x=e
 ·subst h;simp
 ·have:f x≠f e:=fun z=>h (hf x hx z);simp[h,this]
theorem qj0(hj:j≠slot n (ky (f e))):at_ ky n ((l.filter fun x=>decide (x≠e)).map f) j=at_ ky n (l.map f) j:=by
 unfold at_
 rw[List.filter_map,List.filter_map,List.filter_filter];congr 1;refine List.filter_congr fun x _=>?_;show(decide (slot n (ky (f x))=j)&&decide (x≠e))=decide (slot n (ky (f x))=j);by_cases h:x=e
 ·subst h;simp[Ne.symm hj]
 ·simp[h]
theorem Yd0{α β:Type}(f:α->β){l:List α}(h:(l.map f).Nodup):l.Nodup:=List.Pairwise.of_map f (fun _ _ hn e=>hn (e▸rfl)) h
theorem Cf0{α β:Type}{f:α->β}:∀{l:List α},(l.map f).Nodup->∀x∈l,∀y∈l,f x=f y->x=y
 | [],_,_,hx,_,_,_=>by cases hx
 |a::l,h,x,hx,y,hy,e=>by
  rw[List.map_cons]at h;obtain⟨h1,h2⟩:=List.nodup_cons.1 h;rcases List.mem_cons.1 hx with h3|h3 <;> rcases List.mem_cons.1 hy with h4|h4
  ·exact h3.trans h4.symm
  ·exact(h1 (List.mem_map.2 ⟨y,h4,by rw[<- e,h3]⟩)).elim
  ·exact(h1 (List.mem_map.2 ⟨x,h3,by rw[e,h4]⟩)).elim
  ·exact Cf0 h2 x h3 y h4 e
theorem mr1(h:l.Nodup)(he:e∈l):(l.filter fun x=>decide (x≠e)).length+1=l.length:=by
 have h1:(l.filter fun x=>decide (x≠e))=l.erase e:=by
  rw[List.Nodup.erase_eq_filter h];refine List.filter_congr fun x _=>?_;by_cases z:x=e <;> simp[z]
 rw[h1,List.length_erase_of_mem he];have:=List.length_pos_of_mem he;omega
theorem dh1{m:Nat}{len:Nat->Nat}(hs:SOk n m len s)(he:e∈(s.st j).l):dj0 s j (gE s e).key=some e:=by
 cases hf:dj0 s j (gE s e).key with
 |none=>
  have:=List.find?_eq_none.1 hf e he;simp at this
 |some x=>
  have h1:=List.find?_some hf;have h2:=List.mem_of_find?_eq_some hf;have h3:(gE s x).key=(gE s e).key:=by simpa using h1
  rw[Cf0 (hs.nd j) x h2 e he h3]
theorem Hk0{d:Int}(he:e<s.en.length):(gE (ct0 s e d) e).Q3=IntKind.i64.wrap ((gE s e).Q3+d):=by unfold ct0;rw[ku0 he,if_pos rfl]
end
section
variable{p:C5}{fb:Nat->FuncId}{q:PR (C1 p)}{I2:World}{i cb:Nat}{top:List Frame}{N:Nat}{m0 m:Gm}{w0 w:World}{F0:Nat->Prop}{o:I6 H4 Lb}{k:Nat}{r:F6}
theorem Tn.Kt0(h:Tn p fb q I2 i cb top N m0 w0 F0 m w o k r){e:Nat}{y:ByteArray}(hg:m0 (9*e)≠0/\m0 (9*e+5)≠0)(hq:y=(gE o.s e).key):∃nm lm,I0 w (eb m0 e) #[.string y,.i nm,.p lm,.pointer (some ⟨cnG m0 e,0,none⟩)] 127:=by
 have h1:=h.le _ hg.1;have h2:=h.le _ hg.2;have he:=h.at_.mem.dom (e:=e) (by rw[h1];exact hg.1)
 have hE:=(h.at_.mem.en e he).hE;have e1:eb m e=eb m0 e:=by unfold eb;rw[h1]
 have e2:cnG m e=cnG m0 e:=by unfold cnG;rw[h2]
 rw[e1]at hE;unfold enC at hE;rw[e2,<- hq]at hE;exact⟨_,_,hE⟩
theorem Tn.ebs(h:Tn p fb q I2 i cb top N m0 w0 F0 m w o k r){e:Nat}(hg:m0 (9*e)≠0/\m0 (9*e+5)≠0):eb m e=eb m0 e/\cnG m e=cnG m0 e:=by
 unfold eb cnG;rw[h.le _ hg.1,h.le _ hg.2];exact⟨rfl,rfl⟩
theorem Tn.B(h:Tn p fb q I2 i cb top N m0 w0 F0 m w o k r):p.B <=w.heap.size:=
 Nat.le_trans (h.at_.ok.lo 0 h.at_.ok.n.1).2 (Nat.le_of_lt (S3 (h.at_.mem.cl 0 h.at_.ok.n.1)).lt)
end
section
variable{n i e:Nat}{ops:List SOp}{lb:Lb}{s:H4}
theorem Ye0(hp:lb.ph= .less e)(hz:(gE (ct0 s e (-1)) e).Q3=0):L7 n ops i lb s=⟨ct0 s e (-1),[],.inl {lb with ph:=.ie0 e}⟩:=by unfold L7;rw[hp];simp only[hz];rfl
theorem Yf0(hp:lb.ph= .less e)(hz:(gE (ct0 s e (-1)) e).Q3≠0):L7 n ops i lb s=I9 n (ops.drop lb.k) lb.k lb.has (ct0 s e (-1)) []:=by unfold L7;rw[hp];simp only[if_neg hz]
theorem di1(hp:lb.ph= .ie0 e):L7 n ops i lb s=⟨K7 s lb.j {s.st lb.j with held:=true},[],.inl {lb with ph:=.et0 e}⟩:=by unfold L7;rw[hp]
theorem Yg0(hp:lb.ph= .et0 e)(h:e∈(s.st lb.j).l):L7 n ops i lb s=⟨s,[],.inl {lb with ph:=.Q3 e,bs:=s.st lb.j,bk:=T7 s lb.j}⟩:=by unfold L7;rw[hp];simp only[if_pos h]
theorem Hl0(hp:lb.ph= .et0 e)(h:e∉(s.st lb.j).l):L7 n ops i lb s=⟨s,[],.inl {lb with ph:=.cr0 e}⟩:=by unfold L7;rw[hp];simp only[if_neg h]
theorem Px0(hp:lb.ph= .Q3 e)(h:(gE s e).Q3=0):L7 n ops i lb s=⟨s,[],.inl {lb with ph:=.out e}⟩:=by unfold L7;rw[hp];simp only[if_pos h]
theorem Py0(hp:lb.ph= .Q3 e)(h:(gE s e).Q3≠0):L7 n ops i lb s=⟨s,[],.inl {lb with ph:=.cr0 e}⟩:=by unfold L7;rw[hp];simp only[if_neg h]
theorem ms1(hp:lb.ph= .out e):L7 n ops i lb s=⟨Gy0 s lb.j e,[],.inl {lb with ph:=.cr0 e}⟩:=by unfold L7;rw[hp]
theorem ri0(hp:lb.ph= .cr0 e):L7 n ops i lb s=I9 n (ops.drop lb.k) lb.k lb.has (K7 s lb.j {s.st lb.j with held:=false}) []:=by unfold L7;rw[hp]
theorem Yh0(hp:lb.ph= .G9 e):L7 n ops i lb s=I9 n (ops.drop lb.k) lb.k lb.has (bd0 s e {gE s e with held:=true}) []:=by unfold L7;rw[hp]
theorem Ku0(hp:lb.ph= .E6 e):L7 n ops i lb s=I9 n (ops.drop lb.k) lb.k lb.has (bd0 s e {gE s e with held:=false}) []:=by unfold L7;rw[hp]
end
section
variable{n i e:Nat}{ops:List SOp}{lb:Lb}{s:H4}
theorem mt1(hp:lb.ph= .lck):L7 n ops i lb s=⟨K7 s lb.j {s.st lb.j with held:=true},[],.inl {lb with ph:=.jf0}⟩:=by unfold L7;rw[hp]
theorem Yi0(hp:lb.ph= .jf0)(hf:dj0 s lb.j lb.q=some e):L7 n ops i lb s=⟨s,[],.inl {lb with ph:=.bo0 e,nu:=(gE s e).num}⟩:=by unfold L7;rw[hp];simp only[hf]
theorem Yj0(hp:lb.ph= .jf0)(hf:dj0 s lb.j lb.q=none):L7 n ops i lb s=⟨s,[],.inl {lb with ph:=.make,bs:=s.st lb.j,bk:=T7 s lb.j}⟩:=by unfold L7;rw[hp];simp only[hf]
theorem Yk0(hp:lb.ph= .bo0 e):L7 n ops i lb s=⟨ct0 s e 1,[],.inl {lb with ph:=.unl e}⟩:=by unfold L7;rw[hp]
theorem dj1(hp:lb.ph= .make):L7 n ops i lb s=⟨if0 n i lb s,[],.inl {lb with ph:=.unl s.en.length}⟩:=by unfold L7;rw[hp]
theorem Yl0(hp:lb.ph= .unl e):L7 n ops i lb s=I9 n (ops.drop lb.k) lb.k (P3 lb.has lb.to (some e)) (K7 s lb.j {s.st lb.j with held:=false}) []:=by unfold L7;rw[hp]
theorem dk1(x0:ByteArray)(x1:Int)(x2:Option Addr)(x3:Option Addr):prog.built 127 [(0,.string x0),(1,.i x1),(2,.pointer x2),(3,.pointer x3)]=some #[.string x0,.i x1,.pointer x2,.pointer x3]:=by kernel_rfl
theorem dl1{p:C5}{fb:Nat->FuncId}{q:PR (C1 p)}{I2:World}{cb:Nat}{top:List Frame}{m:Gm}{w0:World}{o:I6 H4 Lb}{k:Nat}{r:F6}(h:SAt p fb q I2 i cb top m w0 o k r)(hk:k=o.nts.length)(hf:o.X4= .inl lb)(hp:lb.ph= .lck)(hjq:jb0 p.n lb.q=lb.j)(hqs:lb.q.size <=1000000000000) :
  @Calls prog (J0 (B3 p fb q I2 i cb top)) 59 #[.p p.tb,.p cb,.string lb.q] w0 (o3 (B3 p fb q I2 i cb top) w0 fun v u=>∃m1 o1 r1,Tn p fb q I2 i cb top w0.heap.size m w0 (SF p m o.s r) m1 u o1 0 r1 /\
   ∃e s',v= .pointer (some ⟨eb m1 e,0,none⟩)/\o1=I9 p.n ((p.bo i).drop lb.k) lb.k (P3 lb.has lb.to (some e)) s' []/\e<s'.en.length):=by
 letI:Ctx prog:=J0 (B3 p fb q I2 i cb top);refine X8 (n:=102) func59 rfl rfl fun Z hZ cs W5=>?_;have hb:(base 59).kind≠.early:=by decide
 have hN:=Tn.start h;have hj:=(h.K4 lb hf).j;have hok:=h.ok;have hn0:=h.ok.n.1;have Pw0:=h.ok.n.2;refine U4 ?_;refine U135 ?_;refine U14 ?_;refine U438 ?_;rintro _ w9 ⟨rfl,hw9⟩;rw[hw9,hjq];clear hw9 w9;refine U221 ?_;refine U115 ?_;refine U343 ?_;refine L.Y2 rfl (B2 rfl rfl func52 rfl rb1 rfl) (gz1 hN.at_ hk hf (.inl hp)) ?_ ?_ (fun _ h=>h)
 ·rintro v w ⟨s1,m1,r1,g1,g2,g3,g4,g5,rfl⟩;have hN:=hN.go hN.y6.size g1 g2 g3;rw[mt1 hp]at hN;clear g1 g2 g3;refine U150 ?_;refine U18 ?_;refine U225 ?_;refine U316 ?_;refine U13 ?_;refine ZA.upto hZ hb 2 rfl rfl (R:=fun e' w'=>ZA _ _ _ _ e' _ w') ?_ (fun _ _ h=>h);refine U350 ?_;refine U312 ?_;letI D1:K3:=K3.push Rt0 {target:=.fn (.func 53) #[],args:=#[.pointer (some ⟨p.rw lb.j,0,none⟩),.p cb]};refine U55 ?_;refine U115 ?_;refine U178 ?_;refine U340 ?_;refine L.Y2 rfl (B2 rfl rfl func39 rfl ba1 rfl) (Xt0 (b:={lb with ph:=.jf0}) hN.at_ rfl rfl (.inr (.inl rfl))) ?_ ?_ (fun _ h=>h)
  ·rintro v w ⟨s2,m2,r2,g1,g2,g3,g4,g5,rfl⟩;have hN:=hN.go hN.y6.size g1 g2 g3;cases hfd:dj0 s2 lb.j lb.q with
   |none=>
   ·rw[Yj0 (lb:={lb with ph:=.jf0}) rfl hfd]at hN;refine U129 ?_;intro w b9 F9 Eh0;have lt9:w0.heap.size <=b9:=by have h9:=F9.here;have h8:=hN.y6.size;omega
    refine U155 ?_;intro hN Y8;refine U123 ?_;intro w G1 hg H2 hN;have Y8:=G1;clear G1 hg H2;refine U150 ?_;refine U381 ?_;refine U90 ?_;intro hso hM hfi;rw[hfd]at hfi;refine U113 ?_;intro bw0 hsl hll;rintro _ w ⟨rfl,A1⟩;rw[hfi];refine U61 ?_;intro hN Y8;refine U249 ?_;refine U319 ?_;refine U13 ?_;refine U78 ?_;refine U87 ?_;have hmd:(s2.st lb.j).made <=200:=Nat.le_trans (hso.made lb.j) bw0;have hmn:(s2.st lb.j).made*p.n <=200*64:=Nat.mul_le_mul hmd Pw0;have hmul:IntKind.i64.wrap ((((s2.st lb.j).made:Nat):Int)*(p.n:Int))=(((s2.st lb.j).made*p.n:Nat):Int):=by rw[<- Int.natCast_mul,IntKind.wrap_i64];omega
    have Ez0:((lb.j:Nat):Int)+(((s2.st lb.j).made*p.n:Nat):Int)=((lb.j+(s2.st lb.j).made*p.n:Nat):Int):=by omega
    refine ZA.W hZ hb<|W.quiet (fun w'=>Below w.heap.size w w') Uk Uk ((Below.refl w.heap.size w).drew)<|D.va (fun w' W0=>(N3 rfl))<|D.va (fun w' W0=>(A0 rfl underlying97 rfl sz3 Ud))<|D.va (fun w' W0=>(q0 rfl underlying3 rfl ((Y8.j0 W0).E0 2 (v:=.i ((s2.st lb.j).made:Nat)) rfl)))<|U49 ?_;refine D.va (fun w' W0=>(A0 rfl underlying92 rfl sz3 Ud))<|D.va (fun w' W0=>(q0 (v:=.i (p.n:Int)) rfl underlying3 rfl (jd0 (o:=2) (Tn.tb ((hN.j0 W0))) Ud rfl)))<|D.va (fun w' W0=>(hmul▸zo0 (m:=(((s2.st lb.j).made:Nat):Int)) (k:=(p.n:Int)) rfl rfl))<|D.va (fun w' W0=>(Ez0▸fs0 (m:=((lb.j:Nat):Int)) (k:=(((s2.st lb.j).made*p.n:Nat):Int)) rfl rfl Uo))<|D.va (fun w' W0=>(fd0 rfl))<|D.nil (fun w L2=>?_);have hN:=hN.j0 L2;have Y8:=Y8.j0 L2;clear L2;refine U106 ?_;refine U102 ?_;refine W.fl 24 [12,23] [0,1,2,3,4,5,6,7,8,9,10,11,13,14,15,16,17,18,19,20,21,22,12,23] (fun w'=>Tn p fb q I2 i cb top w0.heap.size m w0 (SF p m o.s r) m2 w' ⟨s2,[],.inl {lb with ph:=.make,bs:=s2.st lb.j,bk:=T7 s2 lb.j}⟩ 0 r2) Uk Uk Uk Uk Uk (hN.j0 (Below.refl w.heap.size w).drew)<|U309 ?_;intro G4 hN;have Y8:=Y8.j0 G4;clear G4;generalize w.drew=w at *;refine F.va rfl rfl (fun w' W0=>(Ru0 rfl))<|F.va rfl rfl (fun w' W0=>(N3 rfl))<|U31 ?_;refine U404 ?_;refine U31 ?_;refine U405 ?_;refine U289 ?_;refine U31 ?_;refine U404 ?_;refine U31 ?_;refine U405 ?_;refine U289 ?_;refine F.doo rfl rfl<|L.call (D6 rfl rfl rfl func104 rfl rn1 rfl) (Wz0 p.wb (oW p.obj 2) ((lb.j+(s2.st lb.j).made*p.n:Nat):Int) _ (hN.at_.mem.rob hN.at_.ok.hW)) ?_;rintro _ w ⟨lm,lt,rfl,l1,l2,hMx,hLt,A1⟩;have n1:=hN.at_.fresh l1
    have n2:=hN.at_.fresh l2
    have z1:=Nat.le_trans hN.y6.size l1;have z2:=Nat.le_trans hN.y6.size l2;refine U61 ?_;intro hN Y8;clear A1;refine L.nil ⟨rfl,hN,?_⟩;refine F.doo rfl rfl<|L.call (fe0 rfl rfl rfl rfl func105 rfl ro1 rfl) (Ki0 p.wb (oW p.obj 3) ((lb.j+(s2.st lb.j).made*p.n:Nat):Int) 1 _ (hN.at_.mem.rob hN.at_.ok.hW)) ?_;rintro _ w ⟨cn,sa,rfl,l3,hCn,A1⟩;have n3:=hN.at_.fresh l3
    have z3:=Nat.le_trans hN.y6.size l3;refine U61 ?_;intro hN Y8;have hMx:=hMx.j0 A1;have hLt:=hLt.j0 A1;clear A1;refine L.nil ⟨rfl,hN,?_⟩;refine U9 ?_;refine L.va (P2 (parts:=[(0,.tmp 64),(1,.tmp 65),(2,.tmp 76),(3,.tmp 87)]) rfl (dk1 lb.q ((lb.j+(s2.st lb.j).made*p.n:Nat):Int) ((some (⟨lm,0,none⟩))) ((some (⟨cn,0,none⟩)))))<|L.box (cs:=#[.string lb.q,.i ((lb.j+(s2.st lb.j).made*p.n:Nat):Int),.p lm,.p cn]) rfl rfl (fun w b89 F89=>?_);have Bk1:=Nat.le_refl w.heap.size;have n89:=hN.at_.fresh (Nat.le_of_eq F89.here.symm)
    have z89:=Nat.le_trans hN.y6.size (Nat.le_of_eq F89.here.symm);have hN:=hN.j0 F89.below;have Y8:=Y8.j0 F89.below;have hMx:=hMx.j0 F89.below;have hLt:=hLt.j0 F89.below;have hCn:=hCn.j0 F89.below;have Pz0:=F89.blk;refine L.va (Z9 rfl)<|U13 ?_;refine ZA.code hZ hb<|W.fl 10 [9] [0,1,2,3,4,5,6,7,8,9] (fun w'=>Tn p fb q I2 i cb top w0.heap.size m w0 (SF p m o.s r) m2 w' ⟨s2,[],.inl {lb with ph:=.make,bs:=s2.st lb.j,bk:=T7 s2 lb.j}⟩ 0 r2/\I0 w' b9 #[.slice (some ⟨va m2 lb.j (s2.st lb.j).R3,0,none⟩) ((s2.st lb.j).V0) (vc m2 lb.j (s2.st lb.j).R3),.i ((s2.st lb.j).l.length:Nat),.i ((s2.st lb.j).made:Nat)] 97) Uk Uk Uk Uk Uk (⟨hN.j0 (Below.refl w.heap.size w).drew,Y8.j0 (Below.refl w.heap.size w).drew⟩)<|U309 ?_;intro G4 hN;have Y8:=Y8.j0 G4;have hMx:=hMx.j0 G4;have hLt:=hLt.j0 G4;have hCn:=hCn.j0 G4;have Pz0:=Pz0.j0 G4;clear G4;generalize w.drew=w at *;refine U72 ?_;refine U276 ?_;refine U523 ?_;refine F.va rfl rfl (fun w' W0=>(A2 (cs:=[.slice (some ⟨va m2 lb.j (s2.st lb.j).R3,0,none⟩) ((s2.st lb.j).V0) (vc m2 lb.j (s2.st lb.j).R3),.i ((s2.st lb.j).l.length:Nat),.i ((s2.st lb.j).made:Nat)]) rfl underlying97 rfl C9 rfl (W0.2.R7 rfl)))<|U98 ?_;have hso:=hN.at_.so
    have hM:=hN.at_.mem
    have hsl:=hso.sl lb.j;have hll:=hso.ll lb.j;have dm1:∀x∈((s2.st lb.j).l.map (eb m2)),x≠b89:=fun x hx hxe=>by
     obtain⟨y,hy,hy2⟩:=List.mem_map.1 hx;exact n89 (by rw[<- hxe,<- hy2];exact SF.eb (hso.l _ _ hy))
    have hd1:bv0 w (P3 r2.ky b89 lb.q) (fl (at_ r2.ky (s2.st lb.j).V0 ((s2.st lb.j).l.map (eb m2))) (s2.st lb.j).V0 ++ [b89]):=⟨fun b hb=>by
     rcases List.mem_append.1 hb with h9|h9
     ·have h8:=vh1 h9;obtain⟨hz1,hz2⟩:=(hM.Dw0 hso).all b h8;have h7:P3 r2.ky b89 lb.q b=r2.ky b:=B1 (dm1 b h8);rw[<- h7]at hz1 hz2;exact⟨hz1,hz2⟩
     ·rw[List.mem_singleton]at h9;subst h9;have h7:P3 r2.ky b lb.q b=lb.q:=I1;exact⟨by rw[h7];exact hqs,_,_,_,by rw[h7];exact Pz0⟩⟩
    have zz1:(fl (at_ r2.ky (s2.st lb.j).V0 ((s2.st lb.j).l.map (eb m2))) (s2.st lb.j).V0).length <=900000:=Nat.le_trans (mp1 _) (by rw[List.length_map];exact Nat.le_trans (Nat.mul_le_mul (Nat.le_trans hsl.2 (Nat.succ_le_succ bw0)) (Nat.le_trans hll bw0)) Ud);have Aa1:0<wn (s2.st lb.j).V0 (s2.st lb.j).l.length:=(mf1 hsl.1 hsl.2 hll).1;refine L.call (B2 rfl rfl func106 rfl rp1 rfl) (mm0 (P3 r2.ky b89 lb.q) p.B (s2.st lb.j).V0 (vc m2 lb.j (s2.st lb.j).R3) (s2.st lb.j).l.length (some ⟨va m2 lb.j (s2.st lb.j).R3,0,none⟩) _ (at_ r2.ky (s2.st lb.j).V0 ((s2.st lb.j).l.map (eb m2))) (iaG m2 lb.j (s2.st lb.j).R3) (icG m2 lb.j (s2.st lb.j).R3) b89 hsl.1 (Nat.le_trans hsl.2 (Nat.le_trans (Nat.succ_le_succ bw0) Ud)) (Nat.le_trans hll (Nat.le_trans bw0 Ud)) zz1 _ hN.B (hM.bk lb.j hj) hd1) ?_;rintro _ w ⟨a1,c1,ia1,ic1,rfl,hBk,A1⟩;obtain⟨a1,rfl⟩:=uc0 hBk.out Aa1;have hf1:∀x,BkF (wn (s2.st lb.j).V0 (s2.st lb.j).l.length) a1 ia1 x->¬SF p m2 s2 r2 x:=fun x hx=>hN.at_.fresh (hBk.low hx)
    have hBk:=hBk.down hN.y6.size;rw[dg1 hsl.1 dm1]at hBk;clear hd1 hM;refine U61 ?_;intro hN Y8;have hMx:=hMx.j0 A1;have hLt:=hLt.j0 A1;have hCn:=hCn.j0 A1;have Pz0:=Pz0.j0 A1;clear A1;have e19:(((s2.st lb.j).l.length:Nat):Int)+1=(((s2.st lb.j).l.length+1:Nat):Int):=by omega
    have e29:IntKind.i64.wrap ((((s2.st lb.j).made:Nat):Int)+1)=(((s2.st lb.j).made+1:Nat):Int):=by rw[IntKind.wrap_i64];omega
    rw[e19,e29];refine L.nil ⟨rfl,⟨hN,Y8⟩,?_⟩;refine U9 ?_;refine L.Y2 rfl (D6 rfl rfl rfl func56 rfl rd1 rfl) (ml1 (b:={lb with ph:=.make,bs:=s2.st lb.j,bk:=T7 s2 lb.j}) hN.at_ rfl rfl rfl (Tn.start h).B hN.y6.size rfl hqs Pz0 hMx hLt hCn ⟨z89,z1,z2,z3⟩ ⟨n89,n1,n2,n3⟩ hBk hf1) ?_ (fun ch u hx=>ph0 hok hj hZ hx.1 (hx.2.at hN.y6.os hN.y6.output) fun ch' u' h1 h2=>ZP.leave rfl func59 W5 ⟨h1,h2⟩) (fun _ h=>h);rintro v w ⟨s3,m3,r3,g1,g2,g3,g4,g5,rfl,Ab1⟩;have hN:=hN.go (Nat.le_refl _) g1 g2 g3;rw[dj1 (lb:={lb with ph:=.make,bs:=s2.st lb.j,bk:=T7 s2 lb.j}) rfl]at hN;refine U10 ?_;refine U14 ?_;refine U348 ?_;have L3:=Nj0 (b:={lb with ph:=.unl s3.en.length,bs:=s2.st lb.j,bk:=T7 s2 lb.j}) hN.at_ rfl rfl (.inl ⟨s3.en.length,rfl⟩)
    refine ZR.defer hZ func53 Jj0 rfl (by simpa using L3) (fun v u hx=>?_) (fun ch u hx=>?_) (fun u hx=>hx)
    ·have hE3:=hN.at_.mem.en s3.en.length (by show _<(s3.en ++ [_]).length;simp)
     obtain⟨s4,m4,r4,g1,g2,g3,g4,g5,rfl⟩:=hx;have hN:=hN.go hN.y6.size g1 g2 g3;rw[Yl0 (e:=s3.en.length) (lb:={lb with ph:=.unl s3.en.length,bs:=s2.st lb.j,bk:=T7 s2 lb.j}) rfl]at hN;refine U509 ?_;have heb:eb m4 s3.en.length=b89:=by
      rw[<- Ab1];unfold eb;rw[g2 _ hE3.g.1]
     exact⟨m4,_,r4,hN,s3.en.length,_,by rw[heb];rfl,rfl,g4.e _ rfl⟩
    ·exact ZP.leave rfl func59 W5 ⟨hx.1,hx.2.at hN.y6.os hN.y6.output⟩
   |some e=>
   ·rw[Yi0 (lb:={lb with ph:=.jf0}) rfl hfd]at hN;refine U129 ?_;intro w b9 F9 Eh0;have lt9:w0.heap.size <=b9:=by have h9:=F9.here;have h8:=hN.y6.size;omega
    refine U155 ?_;intro hN Y8;refine U123 ?_;intro w G1 hg H2 hN;have Y8:=G1;clear G1 hg H2;refine U150 ?_;refine U381 ?_;refine U90 ?_;intro hso hM hfi;rw[hfd]at hfi;refine U113 ?_;intro bw0 hsl hll;rintro _ w ⟨rfl,A1⟩;rw[hfi];have hN:=hN.j0 A1;refine U249 ?_;refine U100 ?_;refine U13 ?_;refine U78 ?_;refine U57 ?_;refine ZA.seq hZ ?_;have he:=(hN.at_.K4 _ rfl).e e rfl;have hE:=hN.at_.mem.en e he
    refine U38 ?_;refine U11 ?_;refine U424 ?_;refine L.va (D3 rfl)<|L.Y2 rfl (D6 rfl rfl rfl func50 rfl js1 rfl) (Xu0 (b:={lb with ph:=.bo0 e,nu:=(gE s2 e).num}) hN.at_ rfl rfl (.inr rfl)) ?_ ?_ (fun _ h=>h)
    ·rintro v w ⟨s3,m3,r3,g1,g2,g3,g4,g5,rfl⟩;have hN:=hN.go hN.y6.size g1 g2 g3;rw[Yk0 (e:=e) (lb:={lb with ph:=.bo0 e,nu:=(gE s2 e).num}) rfl]at hN;have Yc0:=g2 _ hE.g.1;clear g1 g3;refine U10 ?_;refine U14 ?_;refine U348 ?_;have L3:=Nj0 (b:={lb with ph:=.unl e,nu:=(gE s2 e).num}) hN.at_ rfl rfl (.inl ⟨e,rfl⟩)
     refine ZR.defer hZ func53 Jj0 rfl (by simpa using L3) (fun v u hx=>?_) (fun ch u hx=>?_) (fun u hx=>hx)
     ·obtain⟨s4,m4,r4,g1,g2,g3,g4,g5,rfl⟩:=hx;have hN:=hN.go hN.y6.size g1 g2 g3;rw[Yl0 (e:=e) (lb:={lb with ph:=.unl e,nu:=(gE s2 e).num}) rfl]at hN;refine U509 ?_;have heb:eb m4 e=eb m2 e:=by
       have h9:=g2 (9*e) (by rw[Yc0];exact hE.g.1);unfold eb;rw[h9,Yc0]
      exact⟨m4,_,r4,hN,e,_,by rw[heb];rfl,rfl,g4.e _ rfl⟩
     ·exact ZP.leave rfl func59 W5 ⟨hx.1,hx.2.at hN.y6.os hN.y6.output⟩
    ·rintro ch u ⟨u7,hh⟩;exact ph0 hok hj hZ u7 (hh.at hN.y6.os hN.y6.output) fun ch' u' h1 h2=>ZP.leave rfl func59 W5 ⟨h1,h2⟩
  ·rintro ch u ⟨u7,hh⟩;exact ph0 hok hj hZ u7 (hh.at hN.y6.os hN.y6.output) fun ch' u' h1 h2=>ZP.leave rfl func59 W5 ⟨h1,h2⟩
 ·rintro ch u ⟨u7,hh⟩;exact ZP.leave rfl func59 W5 ⟨u7,hh.at hN.y6.os hN.y6.output⟩
end
theorem mu1{p:C5}{fb:Nat->FuncId}{q:PR (C1 p)}{I2:World}{i cb:Nat}{top:List Frame}{m:Gm}{w0:World}{o:I6 H4 Lb}{k:Nat}{r:F6}{lb:Lb}{e:Nat}(h:SAt p fb q I2 i cb top m w0 o k r)(hk:k=o.nts.length)(hf:o.X4= .inl lb)(hp:lb.ph= .less e):@Calls prog (J0 (B3 p fb q I2 i cb top)) 28 #[.p p.tb,.p cb,.pointer (some ⟨eb m e,0,none⟩)] w0 (o3 (B3 p fb q I2 i cb top) w0 fun v u=>∃m1 o1 r1,Tn p fb q I2 i cb top w0.heap.size m w0 (SF p m o.s r) m1 u o1 0 r1/\v= .tuple #[]/\∃s',o1=I9 p.n ((p.bo i).drop lb.k) lb.k lb.has s' []):=by
 letI:Ctx prog:=J0 (B3 p fb q I2 i cb top);refine X8 (n:=92) func28 rfl rfl fun Z hZ cs W5=>?_;have hb:(base 28).kind≠.early:=by decide
 have hN:=Tn.start h;have hL:=h.K4 lb hf;have hj:=hL.j;have hok:=h.ok;have hn0:=h.ok.n.1;have Pw0:=h.ok.n.2;have he:=hL.e e (by rw[hp];rfl);have hg:=(h.mem.en e he).g;have hg0:m (9*e)≠0/\m (9*e+5)≠0:=⟨hg.1,hg.2.2.2⟩
 obtain⟨hqe,hjs⟩:=hL.q e (by rw[hp];rfl);have hjq:=hjs.symm;have hqs:lb.q.size <=1000000000000:=by rw[hqe];exact(h.mem.en e he).sz
 obtain⟨nm0,lm0,S7⟩:=hN.Kt0 hg0 hqe;clear hg hL;refine ZA.seq hZ<|ZA.seq hZ<|U38 ?_;refine L.va (D3 rfl)<|L.va (v5 rfl rfl underlying23)<|U40 ?_;refine U511 ?_;refine U89 ?_;refine U514 ?_;refine L.on rfl<|U125 ?_;refine L.Y2 rfl (D6 rfl rfl rfl func50 rfl js1 rfl) (mk1 hN.at_ hk hf hp) ?_ ?_ (fun _ h=>h)
 ·rintro v w ⟨s1,m1,r1,g1,g2,g3,g4,g5,rfl⟩;have hN:=hN.go hN.y6.size g1 g2 g3;have hu:=Hk0 (d:=-1) (g4.e e (by rw[hp];rfl));clear S7;by_cases hz:IntKind.i64.wrap ((gE s1 e).Q3+(-1))=0
  ·rw[Ye0 hp (hu.trans hz)]at hN;rw[hz];clear g1 g2 g3 g4 g5;obtain⟨nm1,lm1,S7⟩:=hN.Kt0 hg0 ((hN.at_.K4 _ rfl).q e rfl).1;refine L.on rfl<|L.va (O8 (r:=false) Ud (pu0 (m:=0) (k:=0) rfl rfl))<|L.va (H7 rfl)<|U10 ?_;refine U264 ?_;refine U14 ?_;refine U531 ?_;refine L.va (q0 rfl underlying9 rfl (S7.E0 0 (v:=.string lb.q) rfl))<|L.call (B2 rfl rfl func51 rfl ra1 rfl) (Gw0 p.tb p.wb p.obj p.n p.rw p.cl p.n p.n lb.q hqs hn0 Pw0 _ hN.tb) ?_;rintro _ w9 ⟨rfl,hw9⟩;rw[hw9,hjq];clear hw9 w9;refine U221 ?_;refine U115 ?_;refine U343 ?_;refine L.Y2 rfl (B2 rfl rfl func52 rfl rb1 rfl) (gz1 (b:={lb with ph:=.ie0 e}) hN.at_ rfl rfl (.inr ⟨e,rfl⟩)) ?_ ?_ (fun _ h=>h)
   ·rintro v w ⟨s1,m1,r1,g1,g2,g3,g4,g5,rfl⟩;have hN:=hN.go hN.y6.size g1 g2 g3;rw[di1 (e:=e) (lb:={lb with ph:=.ie0 e}) rfl]at hN;clear g1 g2 g3 g4 g5 S7;obtain⟨nm1,lm1,S7⟩:=hN.Kt0 hg0 ((hN.at_.K4 _ rfl).q e rfl).1;refine U150 ?_;refine U18 ?_;refine U225 ?_;refine U316 ?_;refine U13 ?_;refine ZA.upto hZ hb 2 rfl rfl (R:=fun e' w'=>ZA _ _ _ _ e' _ w') ?_ (fun _ _ h=>h);refine U350 ?_;refine U312 ?_;letI D1:K3:=K3.push Rt0 {target:=.fn (.func 53) #[],args:=#[.pointer (some ⟨p.rw lb.j,0,none⟩),.p cb]};refine U55 ?_;refine U115 ?_;refine U178 ?_;refine U340 ?_;refine L.Y2 rfl (B2 rfl rfl func39 rfl ba1 rfl) (Xt0 (b:={lb with ph:=.et0 e}) hN.at_ rfl rfl (.inr (.inr ⟨e,rfl⟩))) ?_ ?_ (fun _ h=>h)
    ·rintro v w ⟨s2,m2,r2,g1,g2,g3,g4,g5,rfl⟩;have hN:=hN.go hN.y6.size g1 g2 g3;have hq2:=(g4.q e rfl).1;clear S7;by_cases hin:e∈(s2.st lb.j).l
     ·have hfd:dj0 s2 lb.j lb.q=some e:=by have h9:=dh1 g5 hin;rw[<- hq2]at h9;exact h9
      rw[Yg0 (lb:={lb with ph:=.et0 e}) rfl hin]at hN;refine U129 ?_;intro w b9 F9 Eh0;have lt9:w0.heap.size <=b9:=by have h9:=F9.here;have h8:=hN.y6.size;omega
      refine U155 ?_;intro hN Y8;refine U123 ?_;intro w G1 hg H2 hN;have Y8:=G1;clear G1 hg H2;obtain⟨nm2,lm2,S7⟩:=hN.Kt0 hg0 hq2;have hv2:=hN.at_.mem.gv lb.j hj
      refine U10 ?_;refine U102 ?_;refine U254 ?_;intro G4;have hN:=hN.j0 G4;have Y8:=Y8.j0 G4;have S7:=S7.j0 G4;clear G4;generalize w.drew=w at *;refine U260 ?_;refine U333 ?_;refine U90 ?_;intro hso hM hfi;rw[hfd]at hfi;refine U304 ?_;intro bw0 hsl;have hll:=hso.ll lb.j;have hfi:=hfi.trans (congrArg some (hN.ebs hg0).1);refine L.call (B2 rfl rfl func54 rfl rc1 rfl) (Mz0 r2.ky p.B (s2.st lb.j).V0 (vc m2 lb.j (s2.st lb.j).R3) (some ⟨va m2 lb.j (s2.st lb.j).R3,0,none⟩) _ _ (at_ r2.ky (s2.st lb.j).V0 ((s2.st lb.j).l.map (eb m2))) (iaG m2 lb.j (s2.st lb.j).R3) (icG m2 lb.j (s2.st lb.j).R3) lb.q hqs hsl.1 (Nat.le_trans hsl.2 (Nat.le_trans (Nat.succ_le_succ bw0) Ud)) (fun j _=>Nat.le_trans (qi0 ..) (by rw[List.length_map];exact Nat.le_trans hll (Nat.le_trans bw0 Ud))) _ (hM.bk lb.j hj) ((hM.Dw0 hso).sub fun b hb=>(List.mem_filter.1 hb).1)) ?_;rintro _ w ⟨rfl,A1⟩;rw[hfi];refine U61 ?_;intro hN Y8;have S7:=S7.j0 A1;clear A1;refine L.nil ⟨rfl,⟨Y8,S7⟩,?_⟩;refine U195 ?_;refine U198 ?_;refine L.va (jm0 rfl)<|U13 ?_;refine U38 ?_;refine L.va (n8 rfl)<|U40 ?_;refine U125 ?_;refine L.va (O8 (r:=true) (decide_eq_true rfl) (tw0 rfl rfl underlying71 Tm0 Ud S7 S7 (Nat.zero_lt_succ _) (Nat.zero_lt_succ _)))<|L.va (k7 rfl)<|U89 ?_;refine U514 ?_;refine L.on rfl<|L.va (D3 rfl) ?_;have hus:=da1 (b:={lb with ph:=.Q3 e,bs:=s2.st lb.j,bk:=T7 s2 lb.j}) hN.at_ rfl rfl rfl
      rw[(hN.ebs hg0).2]at hus;refine L.on rfl<|L.Y2 rfl (B2 rfl rfl func55 rfl ya1 rfl) hus ?_ ?_ (fun _ h=>h)
      ·rintro v w ⟨s3,m3,r3,g1,g2,g3,g4,g5,rfl⟩;have O2:s3.st lb.j=s2.st lb.j:=(g4.bs rfl).1;have vi1:=g4.inn e rfl;have hq3:=(g4.q e rfl).1;have hva:va m3 lb.j (s2.st lb.j).R3=va m2 lb.j (s2.st lb.j).R3:=by unfold va;rw[g2 _ hv2.1]
       have hvc:vc m3 lb.j (s2.st lb.j).R3=vc m2 lb.j (s2.st lb.j).R3:=by unfold vc;rw[g2 _ hv2.2]
       have mv1:=g3.blk Y8 (Nat.zero_lt_succ _) (S3 Y8).lt Eh0;have Y8:=mv1.1;have Eh0:=mv1.2;clear mv1;have hN:=hN.go hN.y6.size g1 g2 g3;rw[<- hva,<- hvc,<- O2]at Y8;clear hus S7;by_cases hz:(gE s3 e).Q3=0
       ·rw[Px0 (lb:={lb with ph:=.Q3 e,bs:=s2.st lb.j,bk:=T7 s2 lb.j}) rfl hz]at hN;rw[hz];clear g1 g2 g3 g4 g5;obtain⟨nm3,lm3,S7⟩:=hN.Kt0 hg0 hq3;refine U227 ?_;refine U10 ?_;refine ZA.v8 hZ rfl<|ZA.code hZ hb<|W.fl 10 [9] [0,1,2,3,4,5,6,7,8,9] (fun w'=>Tn p fb q I2 i cb top w0.heap.size m w0 (SF p m o.s r) m3 w' ⟨s3,[],.inl {lb with ph:=.out e,bs:=s2.st lb.j,bk:=T7 s2 lb.j}⟩ 0 r3/\I0 w' b9 #[.slice (some ⟨va m3 lb.j (s3.st lb.j).R3,0,none⟩) ((s3.st lb.j).V0) (vc m3 lb.j (s3.st lb.j).R3),.i ((s3.st lb.j).l.length:Nat),.i ((s3.st lb.j).made:Nat)] 97) Uk Uk Uk Uk Uk (⟨hN.j0 (Below.refl w.heap.size w).drew,Y8.j0 (Below.refl w.heap.size w).drew⟩)<|U309 ?_;intro G4 hN;have Y8:=Y8.j0 G4;clear G4;generalize w.drew=w at *;refine U72 ?_;refine U276 ?_;refine U523 ?_;refine F.va rfl rfl (fun w' W0=>(A2 (cs:=[.slice (some ⟨va m3 lb.j (s3.st lb.j).R3,0,none⟩) ((s3.st lb.j).V0) (vc m3 lb.j (s3.st lb.j).R3),.i ((s3.st lb.j).l.length:Nat),.i ((s3.st lb.j).made:Nat)]) rfl underlying97 rfl C9 rfl (W0.2.R7 rfl)))<|U98 ?_;have hso:=hN.at_.so
        have hM:=hN.at_.mem
        refine U304 ?_;intro bw0 hsl;have hll:=hso.ll lb.j;have heb:=(hN.ebs hg0).1;obtain⟨N8,hN8⟩:∃N8,N8=w.heap.size:=⟨_,rfl⟩
        have hke:r3.ky (eb m e)=lb.q:=by rw[<- heb,(hM.en e ((hN.at_.K4 _ rfl).e e rfl)).ky];exact hq3.symm
        have vj1:eb m e∈at_ r3.ky (s3.st lb.j).V0 ((s3.st lb.j).l.map (eb m3)) (slot (s3.st lb.j).V0 (r3.ky (eb m e))):=List.mem_filter.2 ⟨List.mem_map.2 ⟨e,vi1,heb⟩,by simp⟩
        refine L.call (B2 rfl rfl func57 rfl yb1 rfl) (Pl0 r3.ky p.B (s3.st lb.j).V0 (vc m3 lb.j (s3.st lb.j).R3) (some ⟨va m3 lb.j (s3.st lb.j).R3,0,none⟩) _ _ (at_ r3.ky (s3.st lb.j).V0 ((s3.st lb.j).l.map (eb m3))) (iaG m3 lb.j (s3.st lb.j).R3) (icG m3 lb.j (s3.st lb.j).R3) (eb m e) hsl.1 (Nat.le_trans hsl.2 (Nat.le_trans (Nat.succ_le_succ bw0) Ud)) (fun j _=>Nat.le_trans (qi0 ..) (by rw[List.length_map];exact Nat.le_trans hll (Nat.le_trans bw0 Ud))) _ hN.B (hM.bk lb.j hj) ((hM.Dw0 hso).sub fun b hb=>(List.mem_filter.1 hb).1) vj1) ?_;rintro _ w ⟨a1,c1,a2,c2,rfl,hO9,hI9,A1⟩;have hf1:¬SF p m3 s3 r3 a1:=by obtain⟨cur,_,hlo,_⟩:=hO9.row (by simp);exact hN.at_.fresh hlo
        have hf2:a2≠none->¬SF p m3 s3 r3 (ab a2):=fun ha=>by obtain⟨cur,_,hlo,_⟩:=hI9.row ha;exact hN.at_.fresh hlo
        have hNB:=hN.B;have vk1:=hN.y6.size;have vl1:=A1.size;rw[<- hN8]at hO9 hI9 hNB vk1 vl1;clear hM;refine U61 ?_;intro hN Y8;clear A1 hN8;have hln:((s3.st lb.j).l.filter fun x=>decide (x≠e)).length+1=(s3.st lb.j).l.length:=mr1 (Yd0 _ (hso.nd lb.j)) vi1;have hlm:(s3.st lb.j).l.length <=200:=Nat.le_trans hll bw0;have hwl:IntKind.i64.wrap ((((s3.st lb.j).l.length:Nat):Int)-1)=(((s3.st lb.j).l.filter fun x=>decide (x≠e)).length:Nat):=by rw[IntKind.wrap_i64];omega
        rw[hwl];refine L.nil ⟨rfl,⟨hN,Y8⟩,?_⟩;refine U9 ?_;have hM:=hN.at_.mem
        have Ac1:=(hN.at_.K4 _ rfl).e e rfl;have hfe:∀x∈(s3.st lb.j).l,eb m3 x=eb m3 e->x=e:=fun x hx hxe=>by
         by_cases h:x=e
         ·exact h
         ·exact absurd hxe (hM.inj x e (hso.l _ _ hx) Ac1 h).1
        have vm1:=mq1 (ky:=r3.ky) (n:=(s3.st lb.j).V0) (i0:=slot (s3.st lb.j).V0 (r3.ky (eb m e))) hfe;rw[heb]at vm1;rw[vm1]at hO9 hI9;have Ad1:P3 (at_ r3.ky (s3.st lb.j).V0 ((s3.st lb.j).l.map (eb m3))) (slot (s3.st lb.j).V0 (r3.ky (eb m e))) (at_ r3.ky (s3.st lb.j).V0 (((s3.st lb.j).l.filter fun x=>decide (x≠e)).map (eb m3)) (slot (s3.st lb.j).V0 (r3.ky (eb m e))))=at_ r3.ky (s3.st lb.j).V0 (((s3.st lb.j).l.filter fun x=>decide (x≠e)).map (eb m3)):=funext fun j=>by
         by_cases h:j=slot (s3.st lb.j).V0 (r3.ky (eb m e))
         ·rw[h,I1]
         ·rw[B1 h];exact(qj0 (by rw[heb];exact h)).symm
        rw[Ad1]at hO9;refine L.Y2 rfl (D6 rfl rfl rfl func56 rfl rd1 rfl) (vd1 (b:={lb with ph:=.out e,bs:=s2.st lb.j,bk:=T7 s2 lb.j}) (i0:=slot (s3.st lb.j).V0 (r3.ky (eb m e))) (ia:=P3 (iaG m3 lb.j (s3.st lb.j).R3) (slot (s3.st lb.j).V0 (r3.ky (eb m e))) a2) (ic:=P3 (icG m3 lb.j (s3.st lb.j).R3) (slot (s3.st lb.j).V0 (r3.ky (eb m e))) c2) hN.at_ rfl rfl rfl hNB vl1 rfl hO9 (by rw[I1,I1];exact hI9) (fun x _ hx=>⟨by rw[B1 hx],by rw[B1 hx],qj0 (by rw[heb];exact hx)⟩) hf1 (by rw[I1];exact hf2)) ?_ (fun ch u hx=>ph0 hok hj hZ hx.1 (hx.2.at hN.y6.os hN.y6.output) fun ch' u' h1 h2=>ZP.leave rfl func28 W5 ⟨h1,h2⟩) (fun _ h=>h);rintro v w ⟨s4,m4,r4,g1,g2,g3,g4,g5,rfl⟩;have hN:=hN.go vk1 g1 g2 g3;rw[ms1 (e:=e) (lb:={lb with ph:=.out e,bs:=s2.st lb.j,bk:=T7 s2 lb.j}) rfl]at hN;refine U10 ?_;refine U476 ?_;intro L3;refine ZR.defer hZ func53 Jj0 rfl (by simpa using L3) (fun v u hx=>?_) (fun ch u hx=>?_) (fun u hx=>hx)
        ·obtain⟨s5,m5,r5,g1,g2,g3,g4,g5,rfl⟩:=hx;have hN:=hN.go hN.y6.size g1 g2 g3;rw[ri0 (e:=e) (lb:={lb with ph:=.cr0 e,bs:=s2.st lb.j,bk:=T7 s2 lb.j}) rfl]at hN;exact U207
        ·exact ZP.leave rfl func28 W5 ⟨hx.1,hx.2.at hN.y6.os hN.y6.output⟩
       ·rw[Py0 (lb:={lb with ph:=.Q3 e,bs:=s2.st lb.j,bk:=T7 s2 lb.j}) rfl hz]at hN;clear g1 g2 g3 g4 g5;refine L.on rfl<|L.va (O8 (r:=false) (decide_eq_false hz) (dy0 (m:=(gE s3 e).Q3) (k:=0) rfl rfl))<|L.va (k7 rfl)<|U10 ?_;refine U264 ?_;refine U476 ?_;intro L3;refine ZR.defer hZ func53 Jj0 rfl (by simpa using L3) (fun v u hx=>?_) (fun ch u hx=>?_) (fun u hx=>hx)
        ·obtain⟨s5,m5,r5,g1,g2,g3,g4,g5,rfl⟩:=hx;have hN:=hN.go hN.y6.size g1 g2 g3;rw[ri0 (e:=e) (lb:={lb with ph:=.cr0 e,bs:=s2.st lb.j,bk:=T7 s2 lb.j}) rfl]at hN;exact U207
        ·exact ZP.leave rfl func28 W5 ⟨hx.1,hx.2.at hN.y6.os hN.y6.output⟩
      ·rintro ch u ⟨u7,hh⟩;exact ph0 hok hj hZ u7 (hh.at hN.y6.os hN.y6.output) fun ch' u' h1 h2=>ZP.leave rfl func28 W5 ⟨h1,h2⟩
     ·cases hfd:dj0 s2 lb.j lb.q with
      |none=>
      ·rw[Hl0 (lb:={lb with ph:=.et0 e}) rfl hin]at hN;refine U129 ?_;intro w b9 F9 Eh0;have lt9:w0.heap.size <=b9:=by have h9:=F9.here;have h8:=hN.y6.size;omega
       refine U155 ?_;intro hN Y8;refine U123 ?_;intro w G1 hg H2 hN;have Y8:=G1;clear G1 hg H2;obtain⟨nm2,lm2,S7⟩:=hN.Kt0 hg0 hq2;have hv2:=hN.at_.mem.gv lb.j hj
       refine U10 ?_;refine U102 ?_;refine U254 ?_;intro G4;have hN:=hN.j0 G4;have Y8:=Y8.j0 G4;have S7:=S7.j0 G4;clear G4;generalize w.drew=w at *;refine U260 ?_;refine U333 ?_;refine U90 ?_;intro hso hM hfi;rw[hfd]at hfi;refine U113 ?_;intro bw0 hsl hll;rintro _ w ⟨rfl,A1⟩;rw[hfi];refine U61 ?_;intro hN Y8;have S7:=S7.j0 A1;clear A1;refine L.nil ⟨rfl,⟨Y8,S7⟩,?_⟩;refine U195 ?_;refine F.va rfl rfl (fun w' W0=>Q5)<|U9 ?_;refine U239 ?_;refine L.va (n8 rfl)<|U327 ?_;refine U147 ?_;refine U327 ?_;refine U137 ?_;refine U522 ?_;intro L3;refine ZR.defer hZ func53 Jj0 rfl (by simpa using L3) (fun v u hx=>?_) (fun ch u hx=>?_) (fun u hx=>hx)
       ·obtain⟨s5,m5,r5,g1,g2,g3,g4,g5,rfl⟩:=hx;have hN:=hN.go hN.y6.size g1 g2 g3;rw[ri0 (e:=e) (lb:={lb with ph:=.cr0 e}) rfl]at hN;exact U207
       ·exact ZP.leave rfl func28 W5 ⟨hx.1,hx.2.at hN.y6.os hN.y6.output⟩
      |some x=>
      ·have hxl:=List.mem_of_find?_eq_some hfd;have hxe:x≠e:=fun z=>hin (z▸hxl);rw[Hl0 (lb:={lb with ph:=.et0 e}) rfl hin]at hN;refine U129 ?_;intro w b9 F9 Eh0;have lt9:w0.heap.size <=b9:=by have h9:=F9.here;have h8:=hN.y6.size;omega
       refine U155 ?_;intro hN Y8;refine U123 ?_;intro w G1 hg H2 hN;have Y8:=G1;clear G1 hg H2;obtain⟨nm2,lm2,S7⟩:=hN.Kt0 hg0 hq2;have hv2:=hN.at_.mem.gv lb.j hj
       refine U10 ?_;refine U102 ?_;refine U254 ?_;intro G4;have hN:=hN.j0 G4;have Y8:=Y8.j0 G4;have S7:=S7.j0 G4;clear G4;generalize w.drew=w at *;refine U260 ?_;refine U333 ?_;refine U90 ?_;intro hso hM hfi;rw[hfd]at hfi;refine U113 ?_;intro bw0 hsl hll;rintro _ w ⟨rfl,A1⟩;rw[hfi];refine U61 ?_;intro hN Y8;have S7:=S7.j0 A1;clear A1;refine L.nil ⟨rfl,⟨Y8,S7⟩,?_⟩;refine U195 ?_;refine U198 ?_;refine U239 ?_;refine U40 ?_;refine U125 ?_;have hX9:=(hN.at_.mem.en x (hN.at_.so.l _ _ hxl)).hE;have dm1:eb m2 x≠eb m e:=by have h9:=(hN.at_.mem.inj x e (hN.at_.so.l _ _ hxl) ((hN.at_.K4 _ rfl).e e rfl) hxe).1;rw[(hN.ebs hg0).1]at h9;exact h9
       refine L.va (O8 (r:=false) (decide_eq_false dm1) (tw0 rfl rfl underlying71 Tm0 Ud hX9 S7 (Nat.zero_lt_succ _) (Nat.zero_lt_succ _)))<|L.va (k7 rfl)<|U147 ?_;refine U327 ?_;refine U137 ?_;refine U522 ?_;intro L3;refine ZR.defer hZ func53 Jj0 rfl (by simpa using L3) (fun v u hx=>?_) (fun ch u hx=>?_) (fun u hx=>hx)
       ·obtain⟨s5,m5,r5,g1,g2,g3,g4,g5,rfl⟩:=hx;have hN:=hN.go hN.y6.size g1 g2 g3;rw[ri0 (e:=e) (lb:={lb with ph:=.cr0 e}) rfl]at hN;exact U207
       ·exact ZP.leave rfl func28 W5 ⟨hx.1,hx.2.at hN.y6.os hN.y6.output⟩
    ·rintro ch u ⟨u7,hh⟩;exact ph0 hok hj hZ u7 (hh.at hN.y6.os hN.y6.output) fun ch' u' h1 h2=>ZP.leave rfl func28 W5 ⟨h1,h2⟩
   ·rintro ch u ⟨u7,hh⟩;exact ZP.leave rfl func28 W5 ⟨u7,hh.at hN.y6.os hN.y6.output⟩
  ·rw[Yf0 hp (fun z=>hz (hu.symm.trans z))]at hN;refine L.on rfl<|L.va (O8 (r:=true) (decide_eq_true hz) (pu0 (m:=(IntKind.i64.wrap ((gE s1 e).Q3+(-1)))) (k:=0) rfl rfl))<|L.va (H7 rfl)<|U10 ?_;refine ZA.v8 hZ rfl<|ZA.ret hZ<|U378 ?_;exact⟨m1,_,r1,hN,rfl,_,rfl⟩
 ·rintro ch u ⟨u7,hh⟩;exact ZP.leave rfl func28 W5 ⟨u7,hh.at hN.y6.os hN.y6.output⟩
end Go.Vy.Sc
end
section
namespace Go.Vy.Sc
open Go Go.Conc Go.Yc Go.RowKit Go.Proofs Go.Proofs.YtinppmaojmdmhaaGreat Tryz
open Go.Vc
section
variable[Ctx prog]
end
section
theorem dn1(o:SOp):(o.xg0.tmod 4+4).tmod 4=((plc o:Nat):Int):=tq1 o.xg0 (n:=4) Ud
theorem mw1(n:Int):-9223372036854775808 <=n.tmod 4+4/\n.tmod 4+4 <=9223372036854775807:=by
 have h:-1000 <=n.tmod 4/\n.tmod 4 <=1000:=Mo0 n (n:=4) Ud Ud;omega
theorem u64_in{m:Int}(h:0 <=m/\m<18446744073709551616):IntKind.u64.wrap m=m:=by
 simp[IntKind.wrap,IntKind.signed,IntKind.bits];omega
theorem u8_in{m:Int}(h:0 <=m/\m<256):IntKind.u8.wrap m=m:=by
 simp[IntKind.wrap,IntKind.signed,IntKind.bits];omega
end
section
variable[Ctx prog]
def Hm0(i:Nat):Nat:=if i<10 then 10+i else 2
def uh0(n:Nat)(i:Nat):Value:=match i with
 |0=>.int .u64 (n:Int)
 |1=>.int .u64 (IntKind.u64.wrap ((n:Int).tdiv 10))
 |2=>.string (jw0 (n/10))
 |3=>.int .u64 (n:Int)
 |4=>.int .u64 ((n:Int).tmod 10)
 |5=>.int .u64 (IntKind.u64.wrap (48+(n:Int).tmod 10))
 |6=>.int .u8 (IntKind.u8.wrap (IntKind.u64.wrap (48+(n:Int).tmod 10)))
 |8=>.string (ByteArray.empty.push (UInt8.ofNat (IntKind.u8.wrap (IntKind.u64.wrap (48+(n:Int).tmod 10))).toNat))
 |_=>.string (jw0 (n/10)++(ByteArray.empty.push (UInt8.ofNat (IntKind.u8.wrap (IntKind.u64.wrap (48+(n:Int).tmod 10))).toNat)))
def jz0(n:Nat)(i:Nat)(e:Env)(u:World):Prop:=if i=7 then ∃b,e 17= .slice (pt b) 1 1/\I0 u b #[.int .u8 (IntKind.u8.wrap (IntKind.u64.wrap (48+(n:Int).tmod 10)))] 5 else e (Hm0 i)=uh0 n i
end
section
theorem Qa0{n i j:Nat}{e:Env}{u u':World}{v:Value}(hi:i<11)(hj:j<11)(X2:j≠i)(hb:Below u.heap.size u u')(h:jz0 n j e u):jz0 n j (upd e (Hm0 i) v) u':=by
 unfold jz0 at h⊢;split
 ·rename_i h7;subst h7;obtain⟨b,h1,h2⟩:=h;refine⟨b,?_,h2.j0 hb⟩;rw[<- h1];unfold upd;rw[if_neg (by unfold Hm0;split <;> omega)]
 ·rename_i h7;rw[if_neg h7]at h;rw[<- h];unfold upd;rw[if_neg (by unfold Hm0;split <;> split <;> omega)]
end
section
variable[Ctx prog]
def mx1(n:Nat)(w0:World)(D:Nat->Bool)(e:Env)(u:World):Prop:=Below w0.heap.size w0 u/\e 0= .int .u64 (n:Int)/\∀j,j<11->D j=true->jz0 n j e u
end
section
section
variable{n i:Nat}{D:Nat->Bool}{e:Env}{v:Value}{P:Program}{ops:Array Oper}{I:(Nat->Bool)->Env->World->Prop}{o:Oper}{w:World}
theorem w7{w0:World}{u u':World}(hi:i<11)(h:mx1 n w0 D e u)(hb:Below u.heap.size u u')(hv:jz0 n i (upd e (Hm0 i) v) u'):mx1 n w0 (E4 D i) (upd e (Hm0 i) v) u':=by
 obtain⟨h1,h2,h3⟩:=h;refine⟨B0 h1 hb,?_,fun j hj hD=>?_⟩
 ·rw[<- h2];unfold upd;rw[if_neg (by unfold Hm0;split <;> omega)]
 ·by_cases M3:j=i
  ·subst M3;exact hv
  ·exact Qa0 hi hj M3 hb (h3 j hj (by simpa [E4,M3]using hD))
theorem e8[Ctx P]{w':World}(hw:Region.wanted o (G3 ops e)=true)(h:Does P (execOp (ev e) o) w (.val v) w')(hI:I (E4 D i) (V3 e o.dst v) w'):Mb0 P ops I i o D e w:=
 .inl ⟨hw,fun τ d=>⟨.val v,Yc.G2 w' τ d,h.go τ d,by have h1:=h.tape;have h2:=h.drawn;show I _ _ (Yc.G2 (Yc.G2 w' τ d) w.tape w.drawn);rw[<- h1,<- h2];exact hI⟩⟩
theorem Kv0[Ctx P]{f:FuncId}{args:Array Value}(hw:Region.wanted o (G3 ops e)=true)(h:Does P (execOp (ev e) o) w (.enter f args) w)(hI:C P f args w (fun v w''=>I (E4 D i) (V3 e o.dst v) w'')):Mb0 P ops I i o D e w:=
 .inl ⟨hw,fun τ d=>⟨.enter f args,Yc.G2 w τ d,h.go τ d,hI⟩⟩
theorem Hn0(h:n<10):ByteArray.empty.push (UInt8.ofNat (IntKind.u8.wrap (IntKind.u64.wrap (48+(n:Int)))).toNat)=nz0 n:=by
 rw[u64_in Uo,u8_in Uo];have h1:(48+(n:Int)).toNat=48+n%10:=by omega
 rw[h1];rfl
theorem my1(h:n<10):ByteArray.empty.push (UInt8.ofNat (IntKind.u8.wrap (IntKind.u64.wrap (48+(n:Int)))).toNat)=jw0 n:=by
 rw[Hn0 h,Ea0 h]
theorem mz1(h:¬n<10):jw0 (n/10)++ByteArray.empty.push (UInt8.ofNat (IntKind.u8.wrap (IntKind.u64.wrap (48+(n:Int).tmod 10))).toNat)=jw0 n:=by
 have h1:(n:Int).tmod 10=((n%10:Nat):Int):=rfl;rw[h1,Hn0 Uo,Nb0 h];have:nz0 (n%10)=nz0 n:=by unfold nz0;rw[Nat.mod_mod]
 rw[this]
theorem do1(h:n<18446744073709551616):IntKind.u64.wrap ((n:Int).tdiv 10)=((n/10:Nat):Int):=by
 have h1:(n:Int).tdiv 10=((n/10:Nat):Int):=rfl;rw[h1,u64_in Uo]
end
end
section
variable[Ctx prog]
theorem dp1(o:SOp)(w:World):C prog 73 #[.i o.xg0] w fun v w1=>v= .i (plc o:Nat)/\w1=w:=by
 refine C.enter (n:=7) func73 rfl rfl<|U0 ?_;refine U7 ?_;refine U20 ?_;refine L.va (na0 (m:=o.xg0) (k:=4) rfl rfl Ud)<|L.va (fs0 (m:=o.xg0.tmod 4) (k:=4) rfl rfl (mw1 o.xg0))<|L.va (na0 (m:=o.xg0.tmod 4+4) (k:=4) rfl rfl Ud)<|U152 ?_;exact⟨congrArg (Value.int .i64) (dn1 o),rfl⟩
theorem Ei0(n:Nat)(hn:n<18446744073709551616)(w0:World)(ih:¬n<10->∀w,C prog 150 #[.int .u64 (IntKind.u64.wrap ((n:Int).tdiv 10))] w fun v w1=>v= .string (jw0 (n/10))/\Below w.heap.size w w1):C prog 150 #[.int .u64 (n:Int)] w0 fun v w1=>v= .string (jw0 n)/\Below w0.heap.size w0 w1:=by
 refine C.enter (n:=20) func150 rfl rfl<|U2 ?_;intro hb;refine L.va Q5<|U28 ?_;refine L.va G5<|L.va (jo0 (κ:=.u64) (m:=(n:Int)) (k:=10) rfl rfl)<|U1 ?_;refine W.cond rfl (fun h4=>?_) (fun h4=>?_)
 ·have h4:n<10:=by have:=of_decide_eq_true h4;omega
  refine U85 ?_;refine L.va (jn0 (κ:=.u64) (m:=48) (k:=(n:Int)) rfl rfl)<|L.va (dg0 rfl underlying140 underlying5)<|L.cx0 (cs:=#[.int .u8 (IntKind.u8.wrap (IntKind.u64.wrap (48+(n:Int))))]) rfl rfl underlying272 sz5 rfl ⟨_,zr5⟩ Ud (fun w b8 F8=>?_);have hb:=B0 hb F8.below;have hB8:=F8.blk;refine L.va (Bk0 (m:=IntKind.u8.wrap (IntKind.u64.wrap (48+(n:Int)))) rfl underlying272 underlying5 underlying9 (hB8.E0 0 rfl))<|U154 ?_;exact⟨congrArg Value.string (my1 h4),hb⟩
 ·have h4:¬n<10:=by have:=of_decide_eq_false h4;omega
  refine U69 ?_;refine W.seq<|W.inv (mx1 n w0) rfl Uk ⟨hb.drew,rfl,fun j _ hD=>by cases hD⟩ ?_ (fun D e u ep0 hJ=>?_)
  ·intro i o hi D e u hD P5 Bl1 hJ;have hJ0:=hJ;obtain⟨hbu,h0,hv⟩:=hJ;have get:∀j,j<11->j≠7->D j=true->e (Hm0 j)=uh0 n j:=fun j hj h7 hd=>by have:=hv j hj hd;unfold jz0 at this;rwa [if_neg h7]at this
   match i,hi,P5 with
   |0,hi,P5=>
    obtain rfl:=Option.some.inj hi;exact e8 rfl G5<|w7 (i:=0) Ud hJ0 (Below.refl _ _) (by unfold jz0;rw[if_neg Ud];exact(upd_same _ _ _).trans h0)
   |1,hi,P5=>
    obtain rfl:=Option.some.inj hi;have d0:D 0=true:=P5 _ (Array.mem_of_getElem? (i:=0) rfl) rfl;have g0:e 10=uh0 n 0:=get 0 Ud Ud d0;exact e8 rfl (Lu0 (κ:=.u64) (m:=(n:Int)) (k:=10) g0 rfl Ud)<|w7 (i:=1) Ud hJ0 (Below.refl _ _) (by unfold jz0;rw[if_neg Ud];rfl)
   |2,hi,P5=>
    obtain rfl:=Option.some.inj hi;have d1:D 1=true:=P5 _ (Array.mem_of_getElem? (i:=0) rfl) rfl;have g1:e 11=uh0 n 1:=get 1 Ud Ud d1;refine Kv0 rfl (N2 g1 func150 rfl Tx0 rfl) (C.mono (ih h4 u) fun v u2 hx=>?_);obtain⟨rfl,hx⟩:=hx;exact w7 (i:=2) Ud hJ0 hx (by unfold jz0;rw[if_neg Ud];rfl)
   |3,hi,P5=>
    obtain rfl:=Option.some.inj hi;exact e8 rfl G5<|w7 (i:=3) Ud hJ0 (Below.refl _ _) (by unfold jz0;rw[if_neg Ud];exact(upd_same _ _ _).trans h0)
   |4,hi,P5=>
    obtain rfl:=Option.some.inj hi;have d3:D 3=true:=P5 _ (Array.mem_of_getElem? (i:=0) rfl) rfl;have g3:e 13=uh0 n 3:=get 3 Ud Ud d3;exact e8 rfl (na0 (κ:=.u64) (m:=(n:Int)) (k:=10) g3 rfl Ud)<|w7 (i:=4) Ud hJ0 (Below.refl _ _) (by unfold jz0;rw[if_neg Ud];rfl)
   |5,hi,P5=>
    obtain rfl:=Option.some.inj hi;have d4:D 4=true:=P5 _ (Array.mem_of_getElem? (i:=0) rfl) rfl;have g4:e 14=uh0 n 4:=get 4 Ud Ud d4;exact e8 rfl (jn0 (κ:=.u64) (m:=48) (k:=(n:Int).tmod 10) rfl g4)<|w7 (i:=5) Ud hJ0 (Below.refl _ _) (by unfold jz0;rw[if_neg Ud];rfl)
   |6,hi,P5=>
    obtain rfl:=Option.some.inj hi;have d5:D 5=true:=P5 _ (Array.mem_of_getElem? (i:=0) rfl) rfl;have g5:e 15=uh0 n 5:=get 5 Ud Ud d5;exact e8 rfl (dg0 g5 underlying140 underlying5)<|w7 (i:=6) Ud hJ0 (Below.refl _ _) (by unfold jz0;rw[if_neg Ud];rfl)
   |7,hi,P5=>
    obtain rfl:=Option.some.inj hi;have d6:D 6=true:=P5 _ (Array.mem_of_getElem? (i:=0) rfl) rfl;have g6:e 16=uh0 n 6:=get 6 Ud Ud d6;have hf:=B7 u #[.int .u8 (IntKind.u8.wrap (IntKind.u64.wrap (48+(n:Int).tmod 10)))] 5;exact e8 rfl (sn0 (v:=.int .u8 (IntKind.u8.wrap (IntKind.u64.wrap (48+(n:Int).tmod 10)))) g6 rfl underlying272 sz5 zr5 rfl)<|w7 (i:=7) Ud hJ0 hf.below (by unfold jz0;rw[if_pos rfl];exact⟨_,rfl,hf.blk⟩)
   |8,hi,P5=>
    obtain rfl:=Option.some.inj hi;have d7:D 7=true:=P5 _ (Array.mem_of_getElem? (i:=0) rfl) rfl;have h7:=hv 7 Ud d7;unfold jz0 at h7;rw[if_pos rfl]at h7;obtain⟨b,g7,hB⟩:=h7;exact e8 rfl (Bk0 (m:=IntKind.u8.wrap (IntKind.u64.wrap (48+(n:Int).tmod 10))) g7 underlying272 underlying5 underlying9 (hB.E0 0 rfl))<|w7 (i:=8) Ud hJ0 (Below.refl _ _) (by unfold jz0;rw[if_neg Ud];rfl)
   |9,hi,P5=>
    obtain rfl:=Option.some.inj hi;have d2:D 2=true:=P5 _ (Array.mem_of_getElem? (i:=0) rfl) rfl;have g2:e 12=uh0 n 2:=get 2 Ud Ud d2;have d8:D 8=true:=P5 _ (Array.mem_of_getElem? (i:=1) rfl) rfl;have g8:e 18=uh0 n 8:=get 8 Ud Ud d8;exact e8 rfl (hh0 g2 g8 (by have:=id0 20 (n/10) Uo;have h9:(ByteArray.empty.push (UInt8.ofNat (IntKind.u8.wrap (IntKind.u64.wrap (48+(n:Int).tmod 10))).toNat)).size=1:=rfl;omega))<|w7 (i:=9) Ud hJ0 (Below.refl _ _) (by unfold jz0;rw[if_neg Ud];rfl)
   |10,hi,P5=>
    obtain rfl:=Option.some.inj hi;have d9:D 9=true:=P5 _ (Array.mem_of_getElem? (i:=0) rfl) rfl;have g9:e 19=uh0 n 9:=get 9 Ud Ud d9;exact e8 rfl Q5<|w7 (i:=10) Ud hJ0 (Below.refl _ _) (by unfold jz0;rw[if_neg Ud];exact(upd_same _ _ _).trans g9)
   |i+11,hi,P5=>cases hi
  ·obtain⟨hbu,h0,hv⟩:=hJ;have h2:=hv 10 Ud (ep0 10 Ud);have h2:e 2= .string (jw0 (n/10)++(ByteArray.empty.push (UInt8.ofNat (IntKind.u8.wrap (IntKind.u64.wrap (48+(n:Int).tmod 10))).toNat))):=h2
   repeat(first|refine T.nrm ?_|refine B.nrm ?_|refine N.nrm ?_)
   show W _ _ _ _ _ _;refine U15 ?_;exact⟨h2.trans (congrArg Value.string (mz1 h4)),hbu⟩
theorem Cg0:∀(n:Nat),n<18446744073709551616->∀w,C prog 150 #[.int .u64 (n:Int)] w fun v w1=>v= .string (jw0 n)/\Below w.heap.size w w1:=by
 intro n
 induction n using Nat.strongRecOn with
 |_ n ih=>
  intro hn w;refine Ei0 n hn w fun h w'=>?_;rw[do1 hn];exact ih (n/10) Uo Uo w'
theorem Ho0(n:Int)(hn:-9223372036854775808 <=n/\n <=9223372036854775807)(w0:World):C prog 127 #[.i n] w0 fun v w1=>v= .string (pc0 n)/\Below w0.heap.size w0 w1:=by
 refine C.enter (n:=15) func127 rfl rfl<|U2 ?_;intro hb;refine L.va Q5<|U5 ?_;refine U20 ?_;refine L.va (jo0 (κ:=.i64) (m:=n) (k:=0) rfl rfl)<|U1 ?_;refine W.cond rfl (fun h4=>?_) (fun h4=>?_)
 ·have h4:n<0:=of_decide_eq_true h4;refine U20 ?_;refine L.va (fs0 (m:=n) (k:=1) rfl rfl Uo)<|L.va (Rw0 (k:=n+1) rfl Uo)<|L.va (dg0 rfl underlying2 underlying140)<|L.va (jn0 (κ:=.u64) (m:=IntKind.u64.wrap (-(n+1))) (k:=1) rfl rfl) ?_;have Ae1:IntKind.u64.wrap (IntKind.u64.wrap (-(n+1))+1)=(((-n).toNat:Nat):Int):=by rw[u64_in (m:=-(n+1)) Uo,u64_in Uo];omega
  refine L.call (N2 rfl func150 rfl Tx0 rfl) (by have:=Cg0 (-n).toNat Uo w0;rw[<- Ae1]at this;exact this) ?_;rintro _ w ⟨rfl,L2⟩;have hb:=B0 hb L2;refine L.va (hh0 (a:=ByteArray.mk #[45]) rfl rfl (by have:=id0 20 (-n).toNat Uo;have h9:(ByteArray.mk #[45]).size=1:=rfl;omega))<|U154 ?_;exact⟨congrArg Value.string (by unfold pc0;rw[if_pos h4]),hb⟩
 ·have h4:¬n<0:=of_decide_eq_false h4;refine U69 ?_;refine U20 ?_;refine L.va (dg0 rfl underlying2 underlying140) ?_;have vi0:IntKind.u64.wrap n=((n.toNat:Nat):Int):=by rw[u64_in Uo];omega
  refine L.call (N2 rfl func150 rfl Tx0 rfl) (by have:=Cg0 n.toNat Uo w0;rw[<- vi0]at this;exact this) ?_;rintro _ w ⟨rfl,L2⟩;have hb:=B0 hb L2;refine U154 ?_;exact⟨congrArg Value.string (by unfold pc0;rw[if_neg h4]),hb⟩
theorem na1(b:Nat)(q:ByteArray)(nm:Int)(lt us:Option Addr)(hq:q.size <=1000000000000)(hn:-9223372036854775808 <=nm/\nm <=9223372036854775807)(w0:World)(hB:I0 w0 b #[.string q,.i nm,.pointer lt,.pointer us] 127):C prog 75 #[.p b] w0 fun v w=>v= .string (q++ByteArray.mk #[47]++pc0 nm)/\Below w0.heap.size w0 w:=by
 refine C.enter (n:=10) func75 rfl rfl<|U2 ?_;intro hb;refine U54 ?_;refine U16 ?_;refine L.call (N2 rfl func30 rfl qy1 rfl) (lz1 b q nm lt us w0 hB) ?_;rintro _ w9 ⟨rfl,hw9⟩;refine U35 ?_;refine L.va (hh0 (a:=q) (b:=ByteArray.mk #[47]) rfl rfl (by have h9:(ByteArray.mk #[47]).size=1:=rfl;omega))<|L.va (D3 rfl)<|L.call (N2 rfl func31 rfl qz1 rfl) (ma1 b q nm lt us w0 hB) ?_;rintro _ w9 ⟨rfl,hw9⟩;refine U35 ?_;refine L.call (N2 rfl func127 rfl fv1 rfl) (Ho0 nm Uo w0) ?_;rintro _ w ⟨rfl,L2⟩;have hb:=B0 hb L2;clear L2;refine L.va (hh0 (a:=q++ByteArray.mk #[47]) (b:=pc0 nm) rfl rfl (by have h8:=Bz0 (n:=nm) Uo;rw[ByteArray.size_append];have h9:(ByteArray.mk #[47]).size=1:=rfl;omega))<|U54 ?_;exact U56
theorem Ym0(w0:World):C prog 75 #[.pointer none] w0 fun v w=>v= .string ((ByteArray.mk #[])++ByteArray.mk #[47]++pc0 (-1))/\Below w0.heap.size w0 w:=by
 refine C.enter (n:=10) func75 rfl rfl<|U2 ?_;intro hb;refine U54 ?_;refine U16 ?_;refine L.call (N2 rfl func30 rfl qy1 rfl) (Xa0 w0) ?_;rintro _ w9 ⟨rfl,hw9⟩;refine U35 ?_;refine L.va (hh0 (a:=(ByteArray.mk #[])) (b:=ByteArray.mk #[47]) rfl rfl (by have h9:(ByteArray.mk #[47]).size=1:=rfl;have h8:(ByteArray.mk #[]).size=0:=rfl;omega))<|L.va (D3 rfl)<|L.call (N2 rfl func31 rfl qz1 rfl) (Xb0 w0) ?_;rintro _ w9 ⟨rfl,hw9⟩;refine U35 ?_;refine L.call (N2 rfl func127 rfl fv1 rfl) (Ho0 (-1) Uo w0) ?_;rintro _ w ⟨rfl,L2⟩;have hb:=B0 hb L2;clear L2;refine L.va (hh0 (a:=(ByteArray.mk #[])++ByteArray.mk #[47]) (b:=pc0 (-1)) rfl rfl (by have h8:=Bz0 (n:=(-1)) Uo;rw[ByteArray.size_append];have h9:(ByteArray.mk #[47]).size=1:=rfl;have h7:(ByteArray.mk #[]).size=0:=rfl;omega))<|U54 ?_;exact U56
end
end Go.Vy.Sc
end
section
namespace Go.Vy.Sc
open Go Go.Conc Go.Yc Go.RowKit Go.Proofs Go.Proofs.YtinppmaojmdmhaaGreat Tryz
open Go.Vc Go.Wg
section
variable{p:C5}{fb:Nat->FuncId}{q:PR (C1 p)}{I2 w0:World}{i cb k e:Nat}{top:List Frame}{m:Gm}{o:I6 H4 Lb}{r:F6}{lb:Lb}
theorem Tn.trans{p:C5}{fb:Nat->FuncId}{q:PR (C1 p)}{I2:World}{i cb:Nat}{top:List Frame}{N:Nat}{m0 m1 m2:Gm}{w0 u v:World}{F0:Nat->Prop}{o1 o2:I6 H4 Lb}{k1 k2:Nat}{r1 r2:F6}(h:Tn p fb q I2 i cb top N m0 w0 F0 m1 u o1 k1 r1)(hN:N <=u.heap.size)(h':Tn p fb q I2 i cb top u.heap.size m1 u (SF p m1 o1.s r1) m2 v o2 k2 r2):Tn p fb q I2 i cb top N m0 w0 F0 m2 v o2 k2 r2:=
 ⟨h'.at_,h.le.trans h'.le,h.y6.trans (h'.y6.down hN)⟩
theorem Qb0[Ctx prog](c:Option Addr)(w0:World):C prog 26 #[.pointer none,.pointer c] w0 fun v w=>v= .tuple #[]/\w=w0:=by
 refine C.enter (n:=12) func26 rfl rfl<|U544 ?_;refine U261 ?_;refine W.skip<|U93 ?_;exact⟨rfl,rfl⟩
theorem Hp0[Ctx prog](c:Option Addr)(w0:World):C prog 27 #[.pointer none,.pointer c] w0 fun v w=>v= .tuple #[]/\w=w0:=by
 refine C.enter (n:=12) func27 rfl rfl<|U544 ?_;refine U261 ?_;refine W.skip<|U93 ?_;exact⟨rfl,rfl⟩
theorem dq1[Ctx prog](t:Addr)(c:Option Addr)(w0:World):C prog 28 #[.pointer (some t),.pointer c,.pointer none] w0 fun v w=>v= .tuple #[]/\w=w0:=by
 refine C.enter (n:=92) func28 rfl rfl<|W.seq<|U315 ?_;refine U40 ?_;refine U511 ?_;refine U147 ?_;refine U82 ?_;refine L.va (k7 rfl)<|U110 ?_;refine U45 ?_;exact ends.none (.inr rfl) rfl<|⟨rfl,rfl⟩
theorem nb1(h:SAt p fb q I2 i cb top m w0 o k r)(hk:k=o.nts.length)(hf:o.X4= .inl lb)(hp:lb.ph= .bn0)(hqs:lb.q.size <=1000000000000) :
  @Calls prog (J0 (B3 p fb q I2 i cb top)) 29 #[.p p.tb,.p cb,.string lb.q] w0 (o3 (B3 p fb q I2 i cb top) w0 fun v u=>∃m1 o1 r1,Tn p fb q I2 i cb top w0.heap.size m w0 (SF p m o.s r) m1 u o1 0 r1 /\
   ∃e s',v= .pointer (some ⟨eb m1 e,0,none⟩)/\o1=I9 p.n ((p.bo i).drop lb.k) lb.k (P3 lb.has lb.to (some e)) s' []/\e<s'.en.length):=by
 letI:Ctx prog:=J0 (B3 p fb q I2 i cb top);refine X8 (n:=24) func29 rfl rfl fun Z hZ cs W5=>?_;have hb:(base 29).kind≠.early:=by decide
 have hN:=Tn.start h;have hok:=h.ok;have hjq:=((h.K4 lb hf).st (by rw[hp];rfl)).symm;refine U4 ?_;refine L.va (Z9 rfl)<|U13 ?_;refine U14 ?_;refine L.va (v5 rfl rfl underlying23)<|U87 ?_;refine ZA.seq hZ<|U38 ?_;refine U191 ?_;refine L.va G5<|L.Y2 rfl (D6 rfl rfl rfl func58 rfl yc1 rfl) (Yb0 hN.at_ hk hf hp hjq hqs) ?_ ?_ (fun _ h=>h)
 ·rintro v w ⟨m1,o1,r1,hN1,hv⟩;have hN:=hN.trans hN.y6.size hN1;clear hN1;rcases hv with⟨e,s1,rfl,rfl,hel⟩|⟨s1,rfl,rfl⟩
  ·refine L.va (zn0 rfl)<|U258 ?_;refine U100 ?_;refine U10 ?_;refine U78 ?_;refine U57 ?_;refine U14 ?_;refine U348 ?_;refine U513 ?_;exact⟨m1,_,r1,hN,e,s1,rfl,rfl,hel⟩
  ·refine L.va (zn0 rfl)<|U258 ?_;refine U319 ?_;refine U10 ?_;refine U78 ?_;refine U87 ?_;refine U38 ?_;refine U191 ?_;refine L.va G5<|L.Y2 rfl (D6 rfl rfl rfl func59 rfl yd1 rfl) (dl1 (lb:={lb with ph:=.lck}) hN.at_ rfl rfl rfl hjq hqs) ?_ ?_ (fun _ h=>h)
   ·rintro v w ⟨m2,o2,r2,hN1,e,s2,rfl,rfl,hel⟩;have hN:=hN.trans hN.y6.size hN1;clear hN1;refine L.va (Z9 rfl)<|U10 ?_;refine ZA.ret hZ<|U513 ?_;exact⟨m2,_,r2,hN,e,s2,rfl,rfl,hel⟩
   ·rintro ch u ⟨u7,hh⟩;exact ZP.leave rfl func29 W5 ⟨u7,hh.at hN.y6.os hN.y6.output⟩
 ·rintro ch u ⟨u7,hh⟩;exact ZP.leave rfl func29 W5 ⟨u7,hh.at hN.y6.os hN.y6.output⟩
theorem dr1(h:SAt p fb q I2 i cb top m w0 o k r)(hk:k=o.nts.length)(hf:o.X4= .inl lb)(hp:lb.ph= .G9 e):@Calls prog (J0 (B3 p fb q I2 i cb top)) 26 #[.pointer (some ⟨eb m e,0,none⟩),.p cb] w0 (o3 (B3 p fb q I2 i cb top) w0 fun v u=>∃m1 o1 r1,Tn p fb q I2 i cb top w0.heap.size m w0 (SF p m o.s r) m1 u o1 0 r1/\v= .tuple #[]/\∃s',o1=I9 p.n ((p.bo i).drop lb.k) lb.k lb.has s' []):=by
 letI:Ctx prog:=J0 (B3 p fb q I2 i cb top);refine X8 (n:=12) func26 rfl rfl fun Z hZ cs W5=>?_;have hb:(base 26).kind≠.early:=by decide
 have hN:=Tn.start h;have hok:=h.ok;have he:=(h.K4 lb hf).e e (by rw[hp];rfl);have S7:=(h.mem.en e he).hE;unfold enC at S7;refine U547 ?_;refine U57 ?_;refine U38 ?_;refine U11 ?_;refine U431 ?_;refine L.va (D3 rfl)<|L.Y2 rfl (B2 rfl rfl func48 rfl xy1 rfl) (db1 hN.at_ hk hf hp) ?_ ?_ (fun _ h=>h)
 ·rintro v w ⟨s1,m1,r1,g1,g2,g3,g4,g5,rfl⟩;have hN:=hN.go hN.y6.size g1 g2 g3;rw[Yh0 hp]at hN;refine U10 ?_;exact ZA.done hZ<|ZR.leave rfl func26 W5<|U525
 ·rintro ch u ⟨u7,hh⟩;exact ZP.leave rfl func26 W5 ⟨u7,hh.at hN.y6.os hN.y6.output⟩
theorem Qc0(h:SAt p fb q I2 i cb top m w0 o k r)(hk:k=o.nts.length)(hf:o.X4= .inl lb)(hp:lb.ph= .E6 e):@Calls prog (J0 (B3 p fb q I2 i cb top)) 27 #[.pointer (some ⟨eb m e,0,none⟩),.p cb] w0 (o3 (B3 p fb q I2 i cb top) w0 fun v u=>∃m1 o1 r1,Tn p fb q I2 i cb top w0.heap.size m w0 (SF p m o.s r) m1 u o1 0 r1/\v= .tuple #[]/\∃s',o1=I9 p.n ((p.bo i).drop lb.k) lb.k lb.has s' []):=by
 letI:Ctx prog:=J0 (B3 p fb q I2 i cb top);refine X8 (n:=12) func27 rfl rfl fun Z hZ cs W5=>?_;have hb:(base 27).kind≠.early:=by decide
 have hN:=Tn.start h;have hok:=h.ok;have he:=(h.K4 lb hf).e e (by rw[hp];rfl);have S7:=(h.mem.en e he).hE;unfold enC at S7;refine U547 ?_;refine U57 ?_;refine U38 ?_;refine U11 ?_;refine U431 ?_;refine L.va (D3 rfl)<|L.Y2 rfl (B2 rfl rfl func49 rfl xz1 rfl) (Pv0 hN.at_ hk hf hp) ?_ ?_ (fun _ h=>h)
 ·rintro v w ⟨s1,m1,r1,g1,g2,g3,g4,g5,rfl⟩;have hN:=hN.go hN.y6.size g1 g2 g3;rw[Ku0 hp]at hN;refine U10 ?_;exact ZA.done hZ<|ZR.leave rfl func27 W5<|U525
 ·rintro ch u ⟨u7,hh⟩;exact ZP.leave rfl func27 W5 ⟨u7,hh.at hN.y6.os hN.y6.output⟩
end
end Go.Vy.Sc
end
section
namespace Go.Vy
open Go Go.Yc Go.RowKit
open Go.Vc
theorem W.fp[Go.Vc.K3]{P:Program}[Ctx P]{n:Nat}{id:Nat}{l:List Oper}{Q:Exit->Env->World->Prop}{e:Env}{w:World}(k:Nat)(ch aw:List Nat)(os:List Nat)(PQ:List PanicEntry->World->Prop)(K:World->Prop)(hm:P.follows .mixedOrders=true)(hB:Fk0 n l.toArray k=true)(hA:sl0 l k=true)(hk:Nat.ble k l.length=true)(hO:zu0 l k (fun i=>ch.contains i) os=true)(hal:pr1 l os (fun i=>aw.contains i)=true)
  (hPQ:∀c w e,PQ c w->Q (.panic c) e w) (hK:K w.drew) (h:FP P n l PQ (fun i=>ch.contains i) (fun i=>aw.contains i) (fun e' w'=>L P n l.toArray Q (l.drop k) e' w') os K e w.drew):W P n (.region id l.toArray true) Q e w:=by
 intro a ha;refine wp_region_draw fun t=>?_;simp only[Region.schedule,hm,Bool.true_or,if_true];have R5:=lw0 l.toArray l.toArray.size t (Array.replicate l.toArray.size false) (by simp) (by simp);unfold Region.linearise;generalize Region.linearise.go .any l.toArray l.toArray.size t (Array.replicate l.toArray.size false) []=σ at R5⊢;exact fi1 (qz0 hB) hA (Nat.le_of_ble_eq_true hk) (ne0 (as0 R5) (fun p hp=>by cases hp) hO) (au1 (as0 R5) hal) R5 (as0 R5) hPQ hK h ha
end Go.Vy
end
section
namespace Go.Vy.Sc
open Go Go.Conc Go.Yc Go.RowKit Go.Proofs Go.Proofs.YtinppmaojmdmhaaGreat Tryz
open Go.Vc Go.Wg
section
section
variable{n j:Nat}{ops:List SOp}{has:Nat->Option Nat}{s:H4}{nts:List Nte}{o:SOp}{e:Nat}
theorem jh0{α:Type}{l:List α}{j:Nat}{o:α}(h:l[j]? =some o):l.drop j=o::l.drop (j+1):=by
 obtain⟨h1,h2⟩:=List.getElem?_eq_some_iff.1 h;rw[List.drop_eq_getElem_cons h1,h2]
theorem Yn0(ho:ops[j]? =some o)(h1:o.kind=1):I9 n (ops.drop j) j has s nts=⟨s,nts,.inl ⟨j+1,has,plc o,jb0 n o.key,o.key,.bn0,0,xh0,[]⟩⟩:=by
 rw[jh0 ho];unfold I9;rw[if_pos h1]
theorem Hq0(ho:ops[j]? =some o)(h1:o.kind=5):I9 n (ops.drop j) j has s nts=I9 n (ops.drop (j+1)) (j+1) has s (nts ++ [⟨1,ks0 s (has (plc o))⟩]):=by
 rw[jh0 ho];rw[I9];rw[if_neg Uo,if_pos h1]
theorem Ej0(ho:ops[j]? =some o)(h1:o.kind≠1)(h5:o.kind≠5)(hh:has (plc o)=none):I9 n (ops.drop j) j has s nts=I9 n (ops.drop (j+1)) (j+1) has s nts:=by
 rw[jh0 ho];rw[I9];rw[if_neg h1,if_neg h5,hh]
theorem Yo0(ho:ops[j]? =some o)(h1:o.kind=2)(hh:has (plc o)=some e):I9 n (ops.drop j) j has s nts=⟨s,nts,.inl ⟨j+1,has,0,0,(gE s e).key,.G9 e,(gE s e).num,xh0,[]⟩⟩:=by
 rw[jh0 ho];rw[I9];rw[if_neg Uo,if_neg Uo,hh];simp only[if_pos h1]
theorem Kw0(ho:ops[j]? =some o)(h1:o.kind=3)(hh:has (plc o)=some e):I9 n (ops.drop j) j has s nts=⟨s,nts,.inl ⟨j+1,has,0,0,(gE s e).key,.E6 e,(gE s e).num,xh0,[]⟩⟩:=by
 have h2:¬o.kind=2:=by omega
 rw[jh0 ho];rw[I9];rw[if_neg Uo,if_neg Uo,hh];simp only[if_neg h2,if_pos h1]
theorem Yp0(ho:ops[j]? =some o)(h1:o.kind=4)(hh:has (plc o)=some e):I9 n (ops.drop j) j has s nts=⟨s,nts,.inl ⟨j+1,P3 has (plc o) none,0,jb0 n (gE s e).key,(gE s e).key,.less e,(gE s e).num,xh0,[]⟩⟩:=by
 have h2:¬o.kind=2:=by omega
 have h3:¬o.kind=3:=by omega
 rw[jh0 ho];rw[I9];rw[if_neg Uo,if_neg Uo,hh];simp only[if_neg h2,if_neg h3,if_pos h1]
theorem Yq0(ho:ops[j]? =some o)(h1:o.kind≠1)(h2:o.kind≠2)(h3:o.kind≠3)(h4:o.kind≠4)(h5:o.kind≠5):I9 n (ops.drop j) j has s nts=I9 n (ops.drop (j+1)) (j+1) has s nts:=by
 rw[jh0 ho];rw[I9];rw[if_neg h1,if_neg h5];cases has (plc o)with
 |none=>rfl
 |some e=>simp only[if_neg h2,if_neg h3,if_neg h4]
theorem Nk0(h:ops.length <=j):I9 n (ops.drop j) j has s nts=⟨s,nts,.inr 1⟩:=by
 rw[List.drop_eq_nil_of_le h];rfl
theorem lj0(n:Nat):∀(rest:List SOp)(k:Nat)(has:Nat->Option Nat)(s:H4)(nts:List Nte),∃l,(I9 n rest k has s nts).nts=nts++l/\l.length <=rest.length
 | [],_,_,_,nts=>⟨[],(List.append_nil nts).symm,Nat.le_refl _⟩
 |o::rest,k,has,s,nts=>by
  have up:∀{x:I6 H4 Lb}{vn1:List Nte},(∃l,x.nts=vn1++l/\l.length <=rest.length)->∃l,x.nts=vn1++l/\l.length <=(o::rest).length:=fun⟨l,h1,h2⟩=>⟨l,h1,Nat.le_succ_of_le h2⟩
  unfold I9;split
  ·exact⟨[],(List.append_nil nts).symm,Nat.zero_le _⟩
  split
  ·obtain⟨l,h,h2⟩:=lj0 n rest (k+1) has s (nts ++ [⟨1,ks0 s (has (plc o))⟩]);exact⟨[⟨1,ks0 s (has (plc o))⟩]++l,by rw[h,List.append_assoc],by simp;omega⟩
  split
  ·exact up (lj0 n rest _ _ _ _)
  split
  ·exact⟨[],(List.append_nil nts).symm,Nat.zero_le _⟩
  split
  ·exact⟨[],(List.append_nil nts).symm,Nat.zero_le _⟩
  split
  ·exact⟨[],(List.append_nil nts).symm,Nat.zero_le _⟩
  ·exact up (lj0 n rest _ _ _ _)
end
def Yr0(o:SOp):Array Value:=#[.i o.kind,.i o.xg0,.string o.key]
structure kv0(w:World)(oa:Option Addr)(ops:List SOp):Prop where
 sl:SL oa ops.length
 cell:∀(k:Nat)(o:SOp),ops[k]? =some o->∀(j:Nat)(v:Value),(Yr0 o)[j]? =some v->w.cell? ⟨ab oa,ao oa+k*3+j,none⟩=some v
theorem kv0.j0{w w':World}{oa:Option Addr}{ops:List SOp}(h:kv0 w oa ops)(hb:Below w.heap.size w w'):kv0 w' oa ops:=⟨h.sl,fun k o ho j v hj=>lf0 (h.cell k o ho j v hj) hb⟩
structure Hr0(p:C5)(i ob tp:Nat)(oa:Option Addr)(oc:Nat):Prop where
 rob:p.RO ob
 rtp:p.RO tp
 roa:0<(p.bo i).length->p.RO (ab oa)
 hob:I0 p.wI ob #[.slice oa (p.bo i).length oc] 86
 htp:I0 p.wI tp #[.p p.tb] 23
 ops:kv0 p.wI oa (p.bo i)
 len:(p.bo i).length <=200
section
variable{p:C5}{m:Gm}{w:World}{s:H4}{r:F6}{i ob tp oc:Nat}{oa:Option Addr}
theorem Hr0.ob_(h:Hr0 p i ob tp oa oc)(hE:j4 p m w s r):I0 w ob #[.slice oa (p.bo i).length oc] 86:=(hE.ro ob h.rob).trans h.hob
theorem Hr0.tp_(h:Hr0 p i ob tp oa oc)(hE:j4 p m w s r):I0 w tp #[.p p.tb] 23:=(hE.ro tp h.rtp).trans h.htp
theorem Hr0.ds1(h:Hr0 p i ob tp oa oc)(hE:j4 p m w s r):kv0 w oa (p.bo i):=⟨h.ops.sl,fun k o ho j v hj=>by
 have hl:0<(p.bo i).length:=by have:=(List.getElem?_eq_some_iff.1 ho).1;omega
 rw[(R8 (u:=p.wI) (u':=w) (a:=⟨ab oa,ao oa+k*3+j,none⟩) (hE.ro _ (h.roa hl))).1];exact h.ops.cell k o ho j v hj⟩
end
theorem Qd0{K:Cfg prog}{f:FuncId}{args:Array Value}{u:World}(hf:K.Sw0=f)(h:@Calls prog (J0 K) f args u (fun e w=>∃F,K.Oq0 w F e)):bc0 K (G (Frame.enter prog f args .normal) K.top) u:=
 h (bc0 K) rfl K.top fun _e _w' _fr he h3 h4=>.done (h3.trans hf.symm) h4 he.choose_spec
def Ek0(m:Gm):Option Nat->Value
 |none=>.pointer none
 |some e=>.pointer (some ⟨eb m e,0,none⟩)
section
variable{p:C5}{fb:Nat->FuncId}{q:PR (C1 p)}{I2:World}{i cb:Nat}{top:List Frame}
section
variable{m:Gm}{w:World}{o:I6 H4 Lb}{k:Nat}{r:F6}
theorem SAt.vo1{v:Value}(h:SAt p fb q I2 i cb top m w o k r)(hk:k=o.nts.length)(hf:o.X4= .inr 1):∃F,(B3 p fb q I2 i cb top).Oq0 w F (.returned v):=
 ⟨_,.inl ⟨m,h.c.ko0 hk hf (fun _ _=>h.gu) ⟨r,rfl,h.mem⟩⟩⟩
theorem SAt.vp1{w':World}(h:SAt p fb q I2 i cb top m w o k r)(hg:kl0 w w')(g0:gh w' 0=gh w 0)(g1:gh w' 1=gh w 1+1)(g2:gh w' 2=0)(gm_:gm w'=gm w):SAt p fb q I2 i cb top m w' o (k+1) r:=
 ⟨h.ok,h.im,h.mem.congr fun b hb=>hg.block b (h.mem.vis h.ok hb).1,by rw[gm_];exact h.gu,⟨g2,by rw[g1,h.c.nts],by rw[g0];exact h.c.out,hg.os.trans h.c.os,hg.output.trans h.c.output⟩,h.so,h.K4⟩
end
structure BS(p:C5)(fb:Nat->FuncId)(q:PR (C1 p))(I2:World)(i cb:Nat)(top:List Frame)(b4:Nat)(w:World)(j:Nat)(has:Nat->Option Nat)(s:H4)(nts:List Nte)(m:Gm)(r:F6):Prop where
 at_:SAt p fb q I2 i cb top m w (I9 p.n ((p.bo i).drop j) j has s nts) nts.length r
 hA:I0 w b4 (arr 4 fun x=>Ek0 m (has x)) 166
 nf:¬SF p m s r b4
 hh:∀x e,has x=some e->e<s.en.length
 jn:j <=(p.bo i).length
variable{b4 j:Nat}{w v:World}{has hv dt1:Nat->Option Nat}{s s1:H4}{nts:List Nte}{m m1:Gm}{r r1:F6}{o1:I6 H4 Lb}
section
variable{e pl:Nat}{u:World}
theorem BS.j0(h:BS p fb q I2 i cb top b4 w j has s nts m r){w':World}(hb:Below w.heap.size w w'):BS p fb q I2 i cb top b4 w' j has s nts m r:=
 ⟨h.at_.j0 hb,h.hA.j0 hb,h.nf,h.hh,h.jn⟩
theorem BS.mem(h:BS p fb q I2 i cb top b4 w j has s nts m r):j4 p m w s r:=by have h1:=h.at_.mem;rw[P8]at h1;exact h1
theorem BS.so(h:BS p fb q I2 i cb top b4 w j has s nts m r):SOk p.n p.m (xp0 p) s:=by have h1:=h.at_.so;rw[P8]at h1;exact h1
theorem BS.skip(h:BS p fb q I2 i cb top b4 w j has s nts m r)(hj:j<(p.bo i).length)(ha:I9 p.n ((p.bo i).drop j) j has s nts=I9 p.n ((p.bo i).drop (j+1)) (j+1) has s nts):BS p fb q I2 i cb top b4 w (j+1) has s nts m r:=
 ⟨ha▸h.at_,h.hA,h.nf,h.hh,hj⟩
theorem Hs0(hN:Tn p fb q I2 i cb top w.heap.size m w (SF p m s r) m1 v o1 0 r1)(hM:j4 p m w s r)(hA:I0 w b4 (arr 4 fun x=>Ek0 m (hv x)) 166)(nf:¬SF p m s r b4)(hh:∀x e,hv x=some e->e<s.en.length):I0 v b4 (arr 4 fun x=>Ek0 m1 (hv x)) 166/\¬SF p m1 o1.s r1 b4/\∀x e,hv x=some e->e<o1.s.en.length:=by
 have h1:=hN.y6.blk hA (by rw[I4];decide) (S3 hA).lt nf;have key:∀x e,hv x=some e->e<o1.s.en.length/\eb m1 e=eb m e:=fun x e hx=>by
  have h2:=w6 hM hN.at_.mem hN.le (hh x e hx)
  exact⟨h2.1,h2.2.1⟩
 refine⟨?_,h1.2,fun x e hx=>(key x e hx).1⟩;have e1:(arr 4 fun x=>Ek0 m1 (hv x))=arr 4 fun x=>Ek0 m (hv x):=do0 fun x _=>by
  cases hx:hv x with
  |none=>rfl
  |some e=>show Value.pointer (some ⟨eb m1 e,0,none⟩)= .pointer (some ⟨eb m e,0,none⟩);rw[(key x e hx).2]
 rw[e1];exact h1.1
theorem BS.next(hN:Tn p fb q I2 i cb top w.heap.size m w (SF p m s r) m1 v (I9 p.n ((p.bo i).drop (j+1)) (j+1) dt1 s1 []) 0 r1)(hM:j4 p m w s r)(hA:I0 w b4 (arr 4 fun x=>Ek0 m (dt1 x)) 166)(nf:¬SF p m s r b4)(hh:∀x e,dt1 x=some e->e<s.en.length)(hj:j<(p.bo i).length):BS p fb q I2 i cb top b4 v (j+1) dt1 s1 [] m1 r1:=by
 obtain⟨a,b,c⟩:=Hs0 hN hM hA nf hh;rw[P8]at b c;exact⟨hN.at_,a,b,c,hj⟩
theorem BS.Af1(hN:SAt p fb q I2 i cb top m1 v (I9 p.n ((p.bo i).drop (j+1)) (j+1) (P3 has pl (some e)) s1 []) 0 r1)(nf:¬SF p m1 s1 r1 b4)(hh:∀x e,has x=some e->e<s1.en.length)(he:e<s1.en.length)(hj:j<(p.bo i).length)
  (G1:I0 u b4 (arr 4 fun x=>Ek0 m1 (P3 has pl (some e) x)) 166) (hg:v.grownBy u (some b4)):BS p fb q I2 i cb top b4 u (j+1) (P3 has pl (some e)) s1 [] m1 r1:=
 ⟨hN.H6 hg (by rw[P8];exact nf),G1,nf,fun x e' hx=>by
  by_cases h:x=pl
  ·rw[h,I1]at hx;cases hx;exact he
  ·rw[B1 h]at hx;exact hh x e' hx,hj⟩
theorem BS.ko0(h:BS p fb q I2 i cb top b4 w j has s nts m r)(hj:j<(p.bo i).length)(ha:I9 p.n ((p.bo i).drop j) j has s nts=I9 p.n ((p.bo i).drop (j+1)) (j+1) has s (nts ++ [⟨1,ks0 s (has pl)⟩]))(hg:kl0 w u)(g0:gh u 0=gh w 0)(g1:gh u 1=gh w 1+1)(g2:gh u 2=0)(gm_:gm u=gm w):BS p fb q I2 i cb top b4 u (j+1) has s (nts ++ [⟨1,ks0 s (has pl)⟩]) m r:=by
 have h1:=h.at_.vp1 hg g0 g1 g2 gm_
 rw[ha]at h1;exact⟨by rw[List.length_append];exact h1,(hg.block b4 (S3 h.hA).lt).trans h.hA,h.nf,h.hh,hj⟩
theorem BS.note{pl:Nat}(h:BS p fb q I2 i cb top b4 w j has s nts m r)(ha:I9 p.n ((p.bo i).drop j) j has s nts=I9 p.n ((p.bo i).drop (j+1)) (j+1) has s (nts ++ [⟨1,ks0 s (has pl)⟩])):((B3 p fb q I2 i cb top).out (gh w 0)).nts[gh w 1]? =some ⟨1,ks0 s (has pl)⟩:=by
 have h1:=h.at_.c.out
 have h2:=h.at_.c.nts
 rw[h1,h2,ha];obtain⟨l,hl,_⟩:=lj0 p.n ((p.bo i).drop (j+1)) (j+1) has s (nts ++ [⟨1,ks0 s (has pl)⟩]);rw[hl,List.append_assoc];simp
theorem nc1(hp:C6 p)(hs:SOk p.n p.m (xp0 p) s)(he:e<s.en.length):(-9223372036854775808:Int) <=((gE s e).num:Nat)/\(((gE s e).num:Nat):Int) <=9223372036854775807:=by
 have h1:=hs.nu e he;have h2:=hs.uf0 hp;have h3:p.n*s.en.length <=64*200:=Nat.mul_le_mul hp.n.2 h2;omega
theorem SAt.start{F:Nat->Prop}(hs:Jq0 (B3 p fb q I2 i cb top) ((C1 p).beg i) u F)(hp:C6 p)(hi:i<p.m):∃s r,SAt p fb q I2 i cb top (gm u) u (I9 p.n (p.bo i) 0 (fun _=>none) s []) 0 r:=by
 obtain⟨r,hF,hM⟩:∃r,F=SF p (gm u) ((C1 p).sAt q (gh u 0)) r/\j4 p (gm u) u ((C1 p).sAt q (gh u 0)) r:=hs.inv;obtain⟨ht,p',hR,_,e1,e2⟩:=hs.at_
 have hT:=oa0 hp.n.1 p' hR;have hB:=hT.beg hp.n.1;have ho:(B3 p fb q I2 i cb top).out (gh u 0)=I9 p.n (p.bo i) 0 (fun _=>none) ((C1 p).sAt q (gh u 0)) []:=hs.out;rw[e1]at hT hB;obtain⟨s0,hs0⟩:∃s0:H4,(C1 p).sAt q (gh u 0)=s0:=⟨_,rfl⟩
 rw[hs0]at hM hT hB ho;refine⟨s0,r,⟨hp,hi,by rw[P8];exact hM,LeG.refl _,⟨hs.on,hs.nts,ho,hs.os,hs.output⟩,by rw[P8];exact hT.so,fun b hb=>?_⟩⟩;rw[P8];subst e2;exact hB.K4 _ b (by rw[List.getElem?_append_right (Nat.le_refl _),Nat.sub_self];exact congrArg some hb)
end
end
end
theorem nd1{p:C5}{fb:Nat->FuncId}{q:PR (C1 p)}{I2:World}{i cb:Nat}{top:List Frame}{sI:H4}{mI:Gm}{rI:F6}{ob tp oc:Nat}{oa:Option Addr}(hD:Hr0 p i ob tp oa oc)(w0:World)(h:SAt p fb q I2 i cb top mI w0 (I9 p.n (p.bo i) 0 (fun _=>none) sI []) 0 rI):@Calls prog (J0 (B3 p fb q I2 i cb top)) 72 #[.p cb,.p ob,.p tp] w0 (fun e u=>∃F',(B3 p fb q I2 i cb top).Oq0 u F' e):=by
 letI:Ctx prog:=J0 (B3 p fb q I2 i cb top);refine Calls.B6 (n:=70) func72 rfl rfl ?_;have hlen:=hD.len;refine U0 ?_;refine L.alloc (cs:=#[.pointer none,.pointer none,.pointer none,.pointer none]) qn1 rfl (fun w b4 F4=>?_);have lt4:=Nat.le_refl w.heap.size;have n4:=h.fresh (Nat.le_of_eq F4.here.symm);have h:=h.j0 F4.below;have L1:=F4.blk;refine U6 ?_;refine U238 ?_;have hE:=BS.mk (nts:=[]) (j:=0) (has:=fun _=>none) h L1 (by rw[P8]at n4;exact n4) (fun x e hx=>by cases hx) (Nat.zero_le _);refine W.loop (fun k e w=>∃j:Nat,∃has:Nat->Option Nat,∃s:H4,∃nts:List Nte,∃m:Gm,∃r:F6,k=(p.bo i).length-j/\e 0= .p cb/\e 1= .p ob/\e 2= .p tp/\e 4= .p b4/\e 5= .i (j:Nat)/\BS p fb q I2 i cb top b4 w j has s nts m r) _ ⟨0,(fun _=>none),sI,[],mI,rI,rfl,rfl,rfl,rfl,rfl,rfl,hE⟩ ?_;rintro k e w ⟨j,has,s,nts,m,r,hk,s0,s1,s2,s4,s5,hE⟩;rw[L0 s0,L0 s1,L0 s2,L0 s4,L0 s5];clear s0 s1 s2 s4 s5;have hok:=hE.at_.ok
 have hOb:=hD.ob_ hE.mem;have hTp:=hD.tp_ hE.mem;have od0:=hD.ds1 hE.mem;have hsl:=od0.sl;refine U146 ?_;refine L.va (q0 rfl underlying86 rfl (hOb.E0 0 (v:=.slice oa ((p.bo i).length) oc) rfl))<|L.va (A7 rfl underlying86 rfl)<|U216 ?_;refine W.m6 rfl (fun h11=>?_) (fun h11=>?_)
 ·have O1:j<(p.bo i).length:=by omega
  obtain⟨o,ho⟩:∃o,(p.bo i)[j]? =some o:=⟨_,List.getElem?_eq_getElem O1⟩
  refine U58 ?_;refine U451 ?_;refine U460 ?_;refine L.va (q0 (v:=.i o.xg0) rfl underlying3 rfl ((od0).cell j o ho 1 _ rfl))<|L.call (N2 rfl func73 rfl yl1 rfl) (dp1 o w) ?_;rintro _ w9 ⟨rfl,hw9⟩;refine U35 ?_;refine U7 ?_;refine U0 ?_;refine U451 ?_;refine U460 ?_;refine L.va (q0 (v:=.i o.kind) rfl underlying3 rfl ((od0).cell j o ho 0 _ rfl))<|U1 ?_;refine W.block<|U0 ?_;refine L.va (dy0 rfl rfl)<|U8 ?_;refine W.m6 rfl (fun h25=>?_) (fun h25=>?_)
  ·refine W.fp 9 [8] [] [0,1,2,3,4,5,6,7,8] (fun ch u=>∃F',(B3 p fb q I2 i cb top).Oq0 u F' (.panicked ch)) (fun w'=>I0 w' tp #[.p p.tb] 23/\I0 w' ob #[.slice oa ((p.bo i).length) oc] 86/\kv0 w' oa (p.bo i)) Uk Uk Uk Uk Uk Uk (fun _ _ _ h=>h) (⟨hTp.j0 (Below.refl w.heap.size w).drew,hOb.j0 (Below.refl w.heap.size w).drew,od0.j0 (Below.refl w.heap.size w).drew⟩) ?_;have G4:Below w.heap.size w w.drew:=(Below.refl w.heap.size w).drew;have hE:=hE.j0 G4;clear G4;generalize w.drew=w at *;refine FP.va rfl rfl (fun w' W0=>(N3 rfl))<|FP.va rfl rfl (fun w' W0=>(q0 rfl underlying23 rfl (W0.1.E0 0 (v:=.p p.tb) rfl)))<|FP.va rfl rfl (fun w' W0=>(D3 rfl))<|FP.va rfl rfl (fun w' W0=>(q0 rfl underlying86 rfl (W0.2.1.E0 0 (v:=.slice oa ((p.bo i).length) oc) rfl)))<|FP.va rfl rfl (fun w' W0=>(N3 rfl))<|FP.va rfl rfl (fun w' W0=>(Q7 (i:=j) rfl rfl underlying86 jo1 hsl O1))<|FP.va rfl rfl (fun w' W0=>(A0 rfl underlying85 rfl sz9 Ud))<|FP.va rfl rfl (fun w' W0=>(q0 (v:=.string o.key) rfl underlying9 rfl ((W0.2.2).cell j o ho 2 _ rfl)))<|FP.doo rfl rfl ?_;have y8:=hE.at_
   rw[Yn0 ho h25]at y8;have hks:o.key.size <=1000000000000:=y8.ok.ks i o (List.mem_of_getElem? ho);refine L.Y2 rfl (D6 rfl rfl rfl func29 rfl xs1 rfl) (nb1 (lb:=⟨j+1,has,plc o,jb0 p.n o.key,o.key,.bn0,0,xh0,[]⟩) y8 rfl rfl rfl hks) ?_ ?_ (fun _ h=>h)
   rotate_left
   ·rintro ch u ⟨u7,hh⟩;exact .inr ⟨ch,rfl,hh.done (Sys.kok (xk0 hok)) u7 y8.c.os y8.c.output⟩
   rintro _ w ⟨m1,o1,r1,hN,e,s1,rfl,rfl,hel⟩;have l9:=Hs0 hN y8.mem hE.hA hE.nf hE.hh;clear hOb hTp od0 hE;have hM1:=hN.at_.mem
   have hOb:=hD.ob_ hM1;have hTp:=hD.tp_ hM1;have od0:=hD.ds1 hM1;rw[P8]at l9;obtain⟨hA1,nf1,hh1⟩:=l9;clear y8 hM1;refine L.nil (.inl ⟨rfl,_,.inl rfl,⟨hTp,hOb,od0⟩,?_⟩);refine FP.nil ?_;show L _ _ _ _ _ _ _;refine L.va (p7 (i:=plc o) (n:=4) rfl rfl underlying166 no0 (je0 o))<|L.put (b:=b4) (o:=0+plc o*1) (vs:=[.pointer (some ⟨eb m1 e,0,none⟩)]) (arr 4 fun x=>Ek0 m1 (P3 has (plc o) (some e) x)) rfl rfl rfl no0 rfl rfl hA1 (by rw[I4];have:=je0 o;omega) (nx0 (je0 o) (by rw[I1];rfl) (fun j hj=>by rw[B1 hj])) (fun w G1 hg H2=>?_);have hE1:=BS.Af1 hN.at_ nf1 hh1 hel O1 G1 hg
   clear hN hA1 nf1 G1 hg H2;exact U42
  ·refine W.seq<|U240 ?_;refine W.m6 rfl (fun h37=>?_) (fun h37=>?_)
   ·cases lp0:has (plc o)with
    |none=>
    ·refine W.region rfl<|U174 ?_;refine L.va (D3 rfl)<|L.call (B2 rfl rfl func26 rfl qv1 rfl) (Qb0 (pt cb) w) ?_;rintro _ w9 ⟨rfl,hw9⟩;refine U35 ?_;have hE1:=hE.skip O1 (Ej0 ho Uo Uo lp0);clear hE;exact U42
    |some e=>
    ·have y8:=hE.at_
     rw[Yo0 ho h37 lp0]at y8;refine W.region rfl<|U172 ?_;refine L.va (D3 rfl)<|L.Y2 rfl (B2 rfl rfl func26 rfl qv1 rfl) (dr1 y8 rfl rfl rfl) ?_ ?_ (fun _ h=>h)
     rotate_left
     ·rintro ch u ⟨u7,hh⟩;exact hh.done (Sys.kok (xk0 hok)) u7 y8.c.os y8.c.output
     rintro _ w ⟨m1,o1,r1,hN,rfl,s1,rfl⟩;have hE1:=BS.next hN y8.mem hE.hA hE.nf hE.hh O1;clear hOb hTp od0 hE hN y8;exact U42
   ·refine W.seq<|U240 ?_;refine W.m6 rfl (fun h44=>?_) (fun h44=>?_)
    ·cases lp0:has (plc o)with
     |none=>
     ·refine W.region rfl<|U174 ?_;refine L.va (D3 rfl)<|L.call (B2 rfl rfl func27 rfl qw1 rfl) (Hp0 (pt cb) w) ?_;rintro _ w9 ⟨rfl,hw9⟩;refine U35 ?_;have hE1:=hE.skip O1 (Ej0 ho Uo Uo lp0);clear hE;exact U42
     |some e=>
     ·have y8:=hE.at_
      rw[Kw0 ho h44 lp0]at y8;refine W.region rfl<|U172 ?_;refine L.va (D3 rfl)<|L.Y2 rfl (B2 rfl rfl func27 rfl qw1 rfl) (Qc0 y8 rfl rfl rfl) ?_ ?_ (fun _ h=>h)
      rotate_left
      ·rintro ch u ⟨u7,hh⟩;exact hh.done (Sys.kok (xk0 hok)) u7 y8.c.os y8.c.output
      rintro _ w ⟨m1,o1,r1,hN,rfl,s1,rfl⟩;have hE1:=BS.next hN y8.mem hE.hA hE.nf hE.hh O1;clear hOb hTp od0 hE hN y8;exact U42
    ·refine W.seq<|U240 ?_;refine W.m6 rfl (fun h51=>?_) (fun h51=>?_)
     ·refine W.seq ?_;cases lp0:has (plc o)with
      |none=>
      ·refine W.region rfl<|U174 ?_;refine U64 ?_;refine U165 ?_;refine U383 ?_;intro w hA2 hg H2 y8;have hM2:j4 p m w s r:=by have h9:=y8.mem;rw[P8]at h9;exact h9
       have hOb:=hD.ob_ hM2;have hTp:=hD.tp_ hM2;have od0:=hD.ds1 hM2;have hh2:∀x e,P3 has (plc o) none x=some e->e<s.en.length:=fun x e hx=>by
        by_cases h:x=plc o
        ·rw[h,I1]at hx;cases hx
        ·rw[B1 h]at hx;exact hE.hh x e hx
       have nf2:=hE.nf;clear hg H2 hE;refine U79 ?_;refine U488 ?_;refine L.call (D6 rfl rfl rfl func28 rfl qx1 rfl) (dq1 _ (pt cb) w) ?_;rintro _ w9 ⟨rfl,hw9⟩;refine U35 ?_;have hup:P3 has (plc o) none=has:=funext fun x=>by
        by_cases h:x=plc o
        ·rw[h,I1,lp0]
        ·rw[B1 h]
       rw[hup]at hA2;rw[hup]at hh2;have hE1:=BS.skip (BS.mk y8 hA2 nf2 hh2 (Nat.le_of_lt O1)) O1 (Ej0 ho Uo Uo lp0);clear y8 hA2 hM2;exact U42
      |some e=>
      ·refine W.region rfl<|U172 ?_;refine U64 ?_;refine U165 ?_;refine U383 ?_;intro w hA2 hg H2 y8;have hM2:j4 p m w s r:=by have h9:=y8.mem;rw[P8]at h9;exact h9
       have hOb:=hD.ob_ hM2;have hTp:=hD.tp_ hM2;have od0:=hD.ds1 hM2;have hh2:∀x e,P3 has (plc o) none x=some e->e<s.en.length:=fun x e hx=>by
        by_cases h:x=plc o
        ·rw[h,I1]at hx;cases hx
        ·rw[B1 h]at hx;exact hE.hh x e hx
       have nf2:=hE.nf;clear hg H2 hE;refine U1 ?_;rw[Yp0 ho h51 lp0]at y8;refine W.region rfl<|U488 ?_;refine L.Y2 rfl (D6 rfl rfl rfl func28 rfl qx1 rfl) (mu1 y8 rfl rfl rfl) ?_ ?_ (fun _ h=>h)
       rotate_left
       ·rintro ch u ⟨u7,hh⟩;exact hh.done (Sys.kok (xk0 hok)) u7 y8.c.os y8.c.output
       rintro _ w ⟨m1,o1,r1,hN,rfl,s1,rfl⟩;have hE1:=BS.next hN y8.mem hA2 nf2 hh2 O1;clear hOb hTp od0 hN y8 hA2 hM2;exact U42
     ·refine W.seq<|U240 ?_;refine W.m6 rfl (fun h62=>?_) (fun h62=>?_)
      ·cases lp0:has (plc o)with
       |none=>
       ·refine W.region rfl<|L.va (D3 rfl)<|U174 ?_;refine L.call (N2 rfl func75 rfl rh1 rfl) (Ym0 w) ?_;rintro _ w ⟨rfl,L2⟩;have hE:=hE.j0 L2;clear L2;have htx:ks0 s (has (plc o))=(ByteArray.mk #[]++ByteArray.mk #[47]++pc0 (-1)):=by rw[lp0];rfl
        have han:=Hq0 (n:=p.n) (has:=has) (s:=s) (nts:=nts) ho h62;have hnt:=hE.note han;rw[htx]at hnt;refine L.call (D6 rfl rfl rfl func74 rfl rg1 rfl) (Am0 rfl hE.at_.c.on hnt) ?_;rintro _ w1 ⟨rfl,hg,g0,g1,g2,g3⟩;have hE1:=hE.ko0 O1 han hg g0 g1 g2 g3;clear hE hOb hTp od0 hg g0 g1 g2 g3
        rename World=>w
        exact U42
       |some e=>
       ·have S7:=(hE.mem.en e (hE.hh _ _ lp0))
        have hE8:=S7.hE;unfold enC at hE8;refine W.region rfl<|L.va (D3 rfl)<|U172 ?_;refine L.call (N2 rfl func75 rfl rh1 rfl) (na1 _ _ _ _ _ S7.sz (nc1 hE.at_.ok hE.so (hE.hh _ _ lp0)) w hE8) ?_;rintro _ w ⟨rfl,L2⟩;have hE:=hE.j0 L2;clear L2;have htx:ks0 s (has (plc o))=((gE s e).key++ByteArray.mk #[47]++pc0 ((gE s e).num:Nat)):=by rw[lp0];rfl
        have han:=Hq0 (n:=p.n) (has:=has) (s:=s) (nts:=nts) ho h62;have hnt:=hE.note han;rw[htx]at hnt;refine L.call (D6 rfl rfl rfl func74 rfl rg1 rfl) (Am0 rfl hE.at_.c.on hnt) ?_;rintro _ w1 ⟨rfl,hg,g0,g1,g2,g3⟩;have hE1:=hE.ko0 O1 han hg g0 g1 g2 g3;clear hE hOb hTp od0 hg g0 g1 g2 g3
        rename World=>w
        exact U42
      ·have hE1:=hE.skip O1 (Yq0 ho h25 h37 h44 h51 h62);clear hE;exact W.skip<|B.nrm<|U417
 ·refine W.exit<|U161 ?_;refine U93 ?_;exact hE.at_.vo1 (by rw[Nk0 Uo]) (by rw[Nk0 Uo])
structure ay0(w:World)(ba:Option Addr)(m:Nat)(bo:Nat->List SOp)(oa:Nat->Option Addr)(oc:Nat->Nat):Prop where
 sl:SL ba m
 row:∀i,i<m->w.cell? ⟨ab ba,ao ba+i*1,none⟩=some (.slice (oa i) (bo i).length (oc i))
 ops:∀i,i<m->kv0 w (oa i) (bo i)
 len:∀i,i<m->(bo i).length <=10000000
theorem ay0.j0{w w':World}{ba:Option Addr}{m:Nat}{bo:Nat->List SOp}{oa:Nat->Option Addr}{oc:Nat->Nat}(h:ay0 w ba m bo oa oc)(hb:Below w.heap.size w w'):ay0 w' ba m bo oa oc:=
 ⟨h.sl,fun i hi=>lf0 (h.row i hi) hb,fun i hi=>(h.ops i hi).j0 hb,h.len⟩
structure du1(n:Int)(m:Nat)(bo:Nat->List SOp)(sn:Nat):Prop where
 n1:1 <=n/\n <=64
 m1:m <=16
 sum:bh0 (fun i=>(bo i).length) m <=200
 sn1:sn <=100000
theorem Ht0{f:Nat->Nat}:∀{m i:Nat},i<m->f i <=bh0 f m
 |m+1,i,h=>by
  rw[W8];rcases Nat.lt_or_eq_of_le (Nat.le_of_lt_succ h)with z|z
  ·have:=Ht0 (f:=f) z;omega
  ·subst z;omega
theorem Qe0{bo:Nat->List SOp}{i m:Nat}{x:Int}(hl:∀j,j<m->(bo j).length <=10000000)(hi:i<m)(hx:i <=16->x=(bh0 (fun j=>(bo j).length) i:Nat))(h:i+1 <=16):IntKind.i64.wrap (x+((bo i).length:Int))=(bh0 (fun j=>(bo j).length) (i+1):Nat):=by
 have h1:=Dz0 (f:=fun j=>(bo j).length) (n:=i) (B:=10000000) fun j hj=>hl j Uo;have h2:=hl i hi;have h3:=hx Uo;have h4:i*10000000 <=16*10000000:=Nat.mul_le_mul_right _ Uo;rw[W8,IntWalk.i64_in _ Uo,h3];omega
theorem dv1(n:Nat)(ops:List SOp)(i:Nat)(b:Lb)(s:H4):(L7 n ops i b s).nts.length <=ops.length:=by
 have key:∀has s,(I9 n (ops.drop b.k) b.k has s []).nts.length <=ops.length:=fun has s=>by
  obtain⟨l,h1,h2⟩:=lj0 n (ops.drop b.k) b.k has s [];rw[h1,List.nil_append];rw[List.length_drop]at h2;omega
 unfold L7;cases b.ph with
 |look=>show(match dj0 s b.j b.q with|some e=>(_:I6 H4 Lb)|none=>_).nts.length <=_;split <;> exact Nat.zero_le _
 |jf0=>show(match dj0 s b.j b.q with|some e=>(_:I6 H4 Lb)|none=>_).nts.length <=_;split <;> exact Nat.zero_le _
 |less e=>show(if _ then(_:I6 H4 Lb) else _).nts.length <=_;split;exact Nat.zero_le _;exact key _ _
 |et0 e=>show(if _ then(_:I6 H4 Lb) else _).nts.length <=_;split <;> exact Nat.zero_le _
 |Q3 e=>show(if _ then(_:I6 H4 Lb) else _).nts.length <=_;split <;> exact Nat.zero_le _
 |run e=>exact key _ _
 |unl e=>exact key _ _
 |cr0 e=>exact key _ _
 |G9 e=>exact key _ _
 |E6 e=>exact key _ _
 |_=>exact Nat.zero_le _
theorem Hu0{i k:Nat}{l:List Nte}:(tell i k l).length=l.length:=by unfold tell;simp
theorem vq1{p:C5}(hl:∀i,(p.bo i).length <=200):∀q,(C1 p).Reach q->q.nts.length <=200*q.outs.length:=by
 refine Sys.ind (Y:=C1 p) (fun q=>q.nts.length <=200*q.outs.length) (Nat.zero_le _) (fun q h _=>?_) (fun q i l h _ hf _=>?_)
 ·show(q.nts++tell _ _ (I9 p.n (p.bo q.ft.length) 0 (fun _=>none) q.s []).nts).length <=200*(q.outs ++ [_]).length;rw[List.length_append,List.length_append,Hu0];obtain⟨l,h1,h2⟩:=lj0 p.n (p.bo q.ft.length) 0 (fun _=>none) q.s [];rw[h1,List.nil_append];have:=hl q.ft.length;simp only[List.length_singleton];omega
 ·unfold Sys.n6;rw[hf];show(q.nts++tell _ _ (L7 p.n (p.bo i) i l q.s).nts).length <=200*(q.outs ++ [_]).length;rw[List.length_append,List.length_append,Hu0];have h1:=dv1 p.n (p.bo i) i l q.s;have:=hl i;simp only[List.length_singleton];omega
def gm0(n:Nat)(bk:Nat->Nat)(x:Nat):Nat:=
 if x%9=1 then(if x/9<n then bk (x/9)+1 else 0)
 else if x%9=2 then(if x/9<n then 1 else 0)
 else if x%9=7\/x%9=8 then(if x/9%256=0/\x/9/256<n then 1 else 0)
 else 0
section
variable{n k:Nat}{bk:Nat->Nat}
theorem Ys0:gm0 n bk (9*k+1)=if k<n then bk k+1 else 0:=by
 unfold gm0;rw[if_pos Uo,show(9*k+1)/9=k by omega]
theorem Yt0:gm0 n bk (9*k+2)=if k<n then 1 else 0:=by
 unfold gm0;rw[if_neg Uo,if_pos Uo,show(9*k+2)/9=k by omega]
theorem Ch0{d:Nat}(hd:d=7\/d=8):gm0 n bk (9*k+d)=if k%256=0/\k/256<n then 1 else 0:=by
 unfold gm0;rw[if_neg Uo,if_neg Uo,if_pos Uo,show(9*k+d)/9=k by omega]
theorem Hv0{d:Nat}(hd:d=0\/d=3\/d=4\/d=5\/d=6):gm0 n bk (9*k+d)=0:=by
 unfold gm0;rw[if_neg Uo,if_neg Uo,if_neg Uo]
end
def fvT(b1 b2:Nat->Nat)(k:Nat):Value:=.func (.func 72) #[] #[.pointer (some ⟨b1 k,0,none⟩),.pointer (some ⟨b2 k,0,none⟩)]
theorem Qf0{m x y:Nat}{b1 b2:Nat->Nat}:(List.range (m+1)).map (fvT (P3 b1 m x) (P3 b2 m y))=(List.range m).map (fvT b1 b2) ++ [.func (.func 72) #[] #[.p x,.p y]]:=by
 rw[List.range_succ,List.map_append];congr 1
 ·apply List.map_congr_left;intro i hi;have:i≠m:=by have:i<m:=(by simpa using hi);omega
  unfold fvT;rw[B1 this,B1 this]
 ·simp[fvT,I1]
structure em0(w:World)(m tb:Nat)(bo:Nat->List SOp)(oa:Nat->Option Addr)(oc b1 b2:Nat->Nat):Prop where
 blk:∀i,i<m->I0 w (b1 i) #[.slice (oa i) (bo i).length (oc i)] 86/\I0 w (b2 i) #[.p tb] 23
section
variable{w w':World}{m tb:Nat}{bo:Nat->List SOp}{oa:Nat->Option Addr}{oc b1 b2:Nat->Nat}
theorem em0.j0(h:em0 w m tb bo oa oc b1 b2)(hb:Below w.heap.size w w'):em0 w' m tb bo oa oc b1 b2:=⟨fun i hi=>⟨(h.blk i hi).1.j0 hb,(h.blk i hi).2.j0 hb⟩⟩
theorem em0.mod{B:Nat}{TS:List TypeId}(h:em0 w m tb bo oa oc b1 b2)(hm:y5 w w' B TS)(hT:(TS.contains 86 ||TS.contains 23)=false):em0 w' m tb bo oa oc b1 b2:=by
 simp only[Bool.or_eq_false_iff]at hT;exact⟨fun i hi=>⟨(h.blk i hi).1.mod hm hT.1,(h.blk i hi).2.mod hm hT.2⟩⟩
theorem em0.snoc{x y:Nat}(h:em0 w m tb bo oa oc b1 b2)(hx:I0 w x #[.slice (oa m) (bo m).length (oc m)] 86)(hy:I0 w y #[.p tb] 23):em0 w (m+1) tb bo oa oc (P3 b1 m x) (P3 b2 m y):=by
 have key:∀i,i<m+1->i≠m->i<m:=fun i hi hn=>by omega
 refine⟨fun i hi=>?_⟩;by_cases hn:i=m
 ·subst hn;rw[I1,I1];exact⟨hx,hy⟩
 ·rw[B1 hn,B1 hn];exact h.blk i (key i hi hn)
end
abbrev pT(p:C5)(sc:Nat->Int)(sn:Nat):H4:=((C1 p).pn sc sn).s
structure az0(p:C5)(sc:Nat->Int)(sn B:Nat)(w:World)(R:Rn)(m:Gm)(r:F6):Prop where
 mem:j4 p m w (pT p sc sn) r
 run:mk0 (C1 p) sc sn B R w
 roR:∀b,p.RO b->b<p.B\/∃cs T,I0 p.wI b cs T/\T≠45
 ok:C6 p
section
variable{p:C5}{sc:Nat->Int}{sn B:Nat}{w w':World}{R:Rn}{m:Gm}{r:F6}
theorem az0.j0(h:az0 p sc sn B w R m r)(hb:Below w.heap.size w w'):az0 p sc sn B w' R m r:=
 ⟨h.mem.congr fun b hF=>hb.block b (h.mem.vis h.ok hF).1,h.run.j0 hb,h.roR,h.ok⟩
theorem az0.down{B':Nat}(h:az0 p sc sn B w R m r)(hB:B' <=B):az0 p sc sn B' w R m r:=⟨h.mem,h.run.down hB,h.roR,h.ok⟩
theorem az0.off(h:az0 p sc sn B w R m r){b:Nat}{cs:Array Value}(hB:I0 w b cs 45)(hb:p.B <=b){c:Nat}(hc:SF p m (pT p sc sn) r c):c≠b:=by
 rcases hc with⟨j,hj,rfl|rfl|rfl|⟨i,hi,ha,rfl⟩⟩|⟨e,hl,rfl|rfl|rfl|rfl⟩|hc
 ·exact I0.ne (h.mem.lk j hj) hB Ud
 ·exact I0.ne (h.mem.cl j hj) hB Ud
 ·obtain⟨cur,hc,_⟩:=(h.mem.bk j hj).out.row (by simp);exact I0.ne hc hB Ud
 ·obtain⟨cur,hc,_⟩:=((h.mem.bk j hj).inn i hi).row ha;exact I0.ne hc hB Ud
 ·exact I0.ne (h.mem.en e hl).hE hB Ud
 ·exact I0.ne (h.mem.en e hl).hM hB Ud
 ·exact I0.ne (h.mem.en e hl).hL hB Ud
 ·obtain⟨sa,hC⟩:=(h.mem.en e hl).hC;exact I0.ne hC hB Ud
 ·rcases h.roR c hc with z|⟨ds,T,hD,hT⟩
  ·omega
  ·exact I0.ne ((h.mem.ro c hc).trans hD) hB hT
theorem az0.H6(h:az0 p sc sn B w R m r){b:Nat}(hg:w.grownBy w' (some b))(hn:(b<B/\p.B <=b)/\∃cs,I0 w b cs 45):az0 p sc sn B w' R m r:=by
 obtain⟨⟨O1,hpb⟩,cs,hB⟩:=hn;exact⟨h.mem.congr fun c hc=>hg.block c (h.mem.vis h.ok hc).1 fun e=>h.off hB hpb hc (by cases e;rfl),h.run.H6 hg fun z=>by have:=h.run.fp b z;omega,h.roR,h.ok⟩
end
section
variable{w:World}{bk:Nat->Nat}
theorem Yu0{a:Addr}{v:Value}(h:w.cell? a=some v):w.heap[a.block]? ≠some nothing:=by
 unfold World.cell? at h;intro e;rw[e]at h;simp[nothing]at h
theorem j4.new{p:C5}(hn:p.n <=64)(hL:TLk w p.B p.obj p.rw p.ls p.n)(hQ:TCl w p.B p.wb (oW p.obj 1) p.cl bk p.n)(hw:p.wI=w):j4 p (gm0 p.n bk) w jx0 ⟨fun _=>⟨#[]⟩⟩:=by
 have hva:∀j,j<p.n->va (gm0 p.n bk) j 0=bk j/\vc (gm0 p.n bk) j 0=1:=fun j hj=>by
  unfold va vc;rw[Ys0,Yt0,if_pos (show j+64*0<p.n by omega),if_pos (show j+64*0<p.n by omega)];exact⟨rfl,rfl⟩
 have hia:∀j,j<p.n->iaG (gm0 p.n bk) j 0 0=none/\icG (gm0 p.n bk) j 0 0=0:=fun j hj=>by
  unfold iaG icG;rw[Ch0 (.inl rfl),Ch0 (.inr rfl),if_pos ⟨by omega,by omega⟩];exact⟨rfl,rfl⟩
 refine⟨fun j hj=>(hL.all j hj).2.2.2,fun j hj=>?_,fun j hj=>?_,fun e he=>absurd he (Nat.not_lt_zero _),fun e e' he=>absurd he (Nat.not_lt_zero _),fun e j he=>absurd he (Nat.not_lt_zero _),fun j hj=>?_,fun j i hj hi=>?_,fun e _=>?_,fun j v hj hv=>?_,fun b _=>by rw[hw]⟩
 ·have h1:=(hQ.all j hj).2.2.1;have h2:=hva j hj;unfold clC;show I0 w (p.cl j) #[_,_,_,.slice (some ⟨va (gm0 p.n bk) j 0,0,none⟩) 1 (vc (gm0 p.n bk) j 0),_,_] _;rw[h2.1,h2.2];exact h1
 ·have h1:=hQ.all j hj;show Bk w p.B 1 (some ⟨va (gm0 p.n bk) j 0,0,none⟩) (vc (gm0 p.n bk) j 0) (at_ _ 1 []) (iaG (gm0 p.n bk) j 0) (icG (gm0 p.n bk) j 0);rw[(hva j hj).1,(hva j hj).2];refine⟨?_,fun i hi=>?_⟩
  ·have e1:lst (fun i=>.slice (iaG (gm0 p.n bk) j 0 i) (at_ (fun _=>(⟨#[]⟩:ByteArray)) 1 [] i).length (icG (gm0 p.n bk) j 0 i)) 1=[.slice none 0 0]:=by
    show [Value.slice (iaG (gm0 p.n bk) j 0 0) 0 (icG (gm0 p.n bk) j 0 0)]=_;rw[(hia j hj).1,(hia j hj).2]
   rw[e1];exact Own.Fm0 (s:=1) (n:=1) h1.2.2.2 rfl h1.2.1 (Nat.le_refl _) Ud
  ·obtain rfl:i=0:=by omega
   rw[(hia j hj).1,(hia j hj).2];exact Own.nil _ _ _ _
 ·show gm0 p.n bk (9*(j+64*0)+1)≠0/\gm0 p.n bk (9*(j+64*0)+2)≠0;rw[Ys0,Yt0,if_pos (show j+64*0<p.n by omega),if_pos (show j+64*0<p.n by omega)];exact⟨Nat.succ_ne_zero _,by decide⟩
 ·have hi:i<1:=hi;obtain rfl:i=0:=by omega
  show gm0 p.n bk (9*((j+64*0)*256+0)+7)≠0/\gm0 p.n bk (9*((j+64*0)*256+0)+8)≠0;rw[Ch0 (.inl rfl),Ch0 (.inr rfl),if_pos ⟨by omega,by omega⟩];exact⟨by omega,by omega⟩
 ·exact⟨Hv0 (d:=0) (.inl rfl),Hv0 (.inr (.inl rfl)),Hv0 (.inr (.inr (.inl rfl))),Hv0 (.inr (.inr (.inr (.inl rfl)))),Hv0 (.inr (.inr (.inr (.inr rfl))))⟩
 ·have hv:0<v:=hv;rw[Ys0,Yt0,if_neg Uo,if_neg Uo];refine⟨rfl,rfl,fun i hi=>?_⟩;rw[Ch0 (.inl rfl),Ch0 (.inr rfl),if_neg (fun h=>by omega)];exact⟨rfl,rfl⟩
theorem Kx0{lb:Nat}{pl:Nat->O7}{n m sn lc scp wb tb:Nat}{obj:Int}{bo:Nat->List SOp}{sc:Nat->Int}{ba l sa:Option Addr}{oa:Nat->Option Addr}{oc b1 b2 rw_ ls cl:Nat->Nat}{w0:World}(hBo:ay0 w0 ba m bo oa oc)(hz:∀i,m <=i->bo i=[])(hks:∀i o,o∈bo i->o.key.size <=1000000000000)(hSc:wv0 w0 sa sn scp sc)(hF:du1 n m bo sn)(hb:Below w0.heap.size w0 w)
  (hl:Own w w0.heap.size 72 1 l m lc ((List.range m).map (fvT b1 b2))) (hW:I0 w wb #[.bool false] 99) (hT:I0 w tb (arr 131 (bg0 wb obj n rw_ cl n n)) 92) (hL:TLk w w0.heap.size obj rw_ ls n) (hQ:TCl w w0.heap.size wb (oW obj 1) cl bk n) (hx:em0 w m tb bo oa oc b1 b2) :
  @C prog (L9 lb pl) 41 #[.slice l m lc,.slice sa sn scp] w fun v w'=>∃(p:C5) (R:Rn) (mF:Gm) (r:F6),v= .tuple #[Uw0 R,.i 0]/\(p.m=m/\p.bo=bo/\p.n=n/\p.obj=obj/\p.tb=tb/\p.B=w0.heap.size)/\C6 p/\az0 p sc sn w.heap.size w' R mF r /\
   Below w0.heap.size w0 w'/\(w.heap.size <=w'.heap.size)/\∀(b:Nat)(cs:Array Value),w0.heap.size <=b->I0 w b cs 45->I0 w' b cs 45:=by
 classical
 let RO:Nat->Prop:=fun b=>b=tb\/b=wb\/(∃j,j<n/\b=rw_ j)\/(∃i,i<m/\(b=b1 i\/b=b2 i))\/∃i,i<m/\0<(bo i).length/\b=ab (oa i)
 let p:C5:=⟨n,m,obj,bo,tb,wb,rw_,ls,cl,RO,w,w0.heap.size,lb,pl⟩
 have hn1:1 <=n/\n <=64:=by have:=hF.n1;omega
 have hop:∀i,i<m->0<(bo i).length->∃v,w0.cell? ⟨ab (oa i),ao (oa i)+0*3+0,none⟩=some v:=fun i hi hl0=>by
  obtain⟨o,ho⟩:∃o,(bo i)[0]? =some o:=⟨_,List.getElem?_eq_getElem hl0⟩
  exact⟨_,(hBo.ops i hi).cell 0 o ho 0 _ rfl⟩
 have Dt0:∀i,i<m->0<(bo i).length->ab (oa i)<w0.heap.size:=fun i hi hl0=>by
  obtain⟨v,hv⟩:=hop i hi hl0;exact ns0 hv
 have hRO:∀b,RO b->b<w0.heap.size\/∃cs T,I0 w b cs T/\T≠244/\T≠164/\T≠191/\T≠0/\T≠72/\T≠45:=by
  rintro b (h|h|⟨j,hj,h⟩|⟨i,hi,h|h⟩|⟨i,hi,h0,h⟩)
  ·rw[h];exact .inr ⟨_,_,hT,by decide,by decide,by decide,by decide,by decide,by decide⟩
  ·rw[h];exact .inr ⟨_,_,hW,by decide,by decide,by decide,by decide,by decide,by decide⟩
  ·rw[h];exact .inr ⟨_,_,(hL.all j hj).2.2.1,by decide,by decide,by decide,by decide,by decide,by decide⟩
  ·rw[h];exact .inr ⟨_,_,(hx.blk i hi).1,by decide,by decide,by decide,by decide,by decide,by decide⟩
  ·rw[h];exact .inr ⟨_,_,(hx.blk i hi).2,by decide,by decide,by decide,by decide,by decide,by decide⟩
  ·rw[h];exact .inl (Dt0 i hi h0)
 have Ag1:∀b,RO b->b<w.heap.size/\w.heap[b]? ≠some nothing:=by
  rintro b (h|h|⟨j,hj,h⟩|⟨i,hi,h|h⟩|⟨i,hi,h0,h⟩)
  ·rw[h];exact m7 hT Ud
  ·rw[h];exact m7 hW Ud
  ·rw[h];exact m7 (hL.all j hj).2.2.1 Ud
  ·rw[h];exact m7 (hx.blk i hi).1 Ud
  ·rw[h];exact m7 (hx.blk i hi).2 Ud
  ·obtain⟨v,hv⟩:=hop i hi h0;have hv':=lf0 hv hb;rw[h];exact⟨ns0 hv',Yu0 hv'⟩
 have hlen:∀i,(bo i).length <=200:=fun i=>by
  rcases Nat.lt_or_ge i m with z|z
  ·exact Nat.le_trans (Ht0 (f:=fun i=>(bo i).length) z) hF.sum
  ·rw[hz i z];exact Nat.zero_le _
 have hP:C6 p:=by
  refine⟨hn1,hF.sum,hF.m1,hks,Ag1,fun b hr=>?_,fun j hj=>⟨(hL.all j hj).2.1,(hQ.all j hj).1⟩,⟨.inl rfl,hT⟩,⟨.inr (.inl rfl),hW⟩,fun j hj=>⟨.inr (.inr (.inl ⟨j,hj,rfl⟩)),(hL.all j hj).2.2.1⟩⟩;rcases hRO b hr with h|⟨cs,T,hB,h1,h2,h3,_⟩
  ·exact .inl h
  ·exact .inr ⟨cs,T,hB,h1,h2,h3⟩
 have hD:∀i,i<m->Hr0 p i (b1 i) (b2 i) (oa i) (oc i):=fun i hi=>⟨.inr (.inr (.inr (.inl ⟨i,hi,.inl rfl⟩))),.inr (.inr (.inr (.inl ⟨i,hi,.inr rfl⟩))),fun h0=>.inr (.inr (.inr (.inr ⟨i,hi,h0,rfl⟩))),(hx.blk i hi).1,(hx.blk i hi).2,(hBo.ops i hi).j0 hb,hlen i⟩
 have hO:qf0 (C1 p) (fun _=>72) (fun i=>#[.pointer (some ⟨b1 i,0,none⟩),.pointer (some ⟨b2 i,0,none⟩)]) (fvT b1 b2) l sa sn sc:=by
  refine⟨xk0 hP,hF.m1,Nat.le_trans hF.sn1 Ud,hl.sl,hSc.sl,fun i hi=>.inr ⟨rfl,rfl,_,func72,rfl,yk1⟩,?_,fun base i cb top u F hi _ hs=>?_⟩
  ·have h1:=vq1 (p:=p) hlen _ (.inr ⟨sc,sn,rfl⟩);have h2:=(Sys.tp0 (Y:=C1 p) sc sn).2;have h3:(C1 p).m <=16:=hF.m1;have h4:=hF.sn1;omega
  ·obtain⟨s,r,hE⟩:=SAt.start hs hP hi;exact Qd0 rfl (nd1 (hD i hi) u hE)
 have hM0:j4 p (gm0 n bk) w jx0 ⟨fun _=>⟨#[]⟩⟩:=j4.new hn1.2 hL hQ rfl;have hinv:uz1 p jx0 (gm0 n bk) w (SF p (gm0 n bk) jx0 ⟨fun _=>⟨#[]⟩⟩):=⟨_,rfl,hM0⟩
 generalize hr0:(⟨fun _=>⟨#[]⟩⟩:F6)=r0 at hM0 hinv;generalize o6:gm0 n bk=m0 at hM0 hinv;have hFT:∀b,SF p m0 jx0 r0 b->b<w0.heap.size/\RO b\/∃cs T,I0 w b cs T/\T≠72/\T≠45:=fun b hb2=>by
  rcases hb2 with⟨j,hj,rfl|rfl|rfl|⟨i,hi,ha,rfl⟩⟩|⟨e,hl,_⟩|h
  ·exact .inr ⟨_,_,hM0.lk j hj,by decide,by decide⟩
  ·exact .inr ⟨_,_,hM0.cl j hj,by decide,by decide⟩
  ·obtain⟨cur,hc,_⟩:=(hM0.bk j hj).out.row (by simp);exact .inr ⟨_,_,hc,by decide,by decide⟩
  ·obtain⟨cur,hc,_⟩:=((hM0.bk j hj).inn i hi).row ha;exact .inr ⟨_,_,hc,by decide,by decide⟩
  ·exact absurd hl (Nat.not_lt_zero _)
  ·rcases hRO b h with z|⟨cs,T,hB,_,_,_,_,h5,h6⟩
   ·exact .inl ⟨z,h⟩
   ·exact .inr ⟨cs,T,hB,h5,h6⟩
 have hlF:0<m->¬SF p m0 jx0 r0 (ab l):=fun hm hh=>by
  obtain⟨cur,hc,hle,_⟩:=hl.row (hl.ir0 hm);rcases hFT _ hh with⟨z,_⟩|⟨cs,T,hB,hT,_⟩
  ·omega
  ·exact I0.ne hB hc hT rfl
 have he1:∀b,b<w0.heap.size->SF p m0 jx0 r0 b->RO b:=fun b O1 hh=>by
  rcases hh with⟨j,hj,rfl|rfl|rfl|⟨i,hi,ha,rfl⟩⟩|⟨e,hl,_⟩|h
  ·have:w0.heap.size <=ls j:=(hL.all j hj).2.1;have O1:ls j<w0.heap.size:=O1;omega
  ·have:w0.heap.size <=cl j:=(hQ.all j hj).1;have O1:cl j<w0.heap.size:=O1;omega
  ·obtain⟨cur,hc,hle,_⟩:=(hM0.bk j hj).out.row (by simp);have hle:w0.heap.size <=va m0 j (jx0.st j).R3:=hle;omega
  ·obtain⟨cur,hc,hle,_⟩:=((hM0.bk j hj).inn i hi).row ha;have hle:w0.heap.size <=ab (iaG m0 j (jx0.st j).R3 i):=hle;omega
  ·exact absurd hl (Nat.not_lt_zero _)
  ·exact h
 have hsF:0<sn->¬SF p m0 jx0 r0 (ab sa)\/∀s m w' F',(C1 p).Inv s m w' F'->w'.heap[ab sa]? =w.heap[ab sa]?:=fun h0=>by
  by_cases hr:RO (ab sa)
  ·refine .inr fun s m w' F' hI=>?_;obtain⟨r,_,hr'⟩:∃r,F'=SF p m s r/\j4 p m w' s r:=hI;exact hr'.ro _ hr
  ·exact .inl fun hh=>hr (he1 _ (ns0 (hSc.cell 0 h0)) hh)
 have key:=cb1 (Y:=C1 p) (m0:=m0) (lc:=lc) hO hinv (fun j hj=>by
   have hj:j<m:=hj;rw[hl.off,Nat.zero_add,Nat.mul_one];exact hl.cell (by simp[hj])) hlF (hSc.j0 hb) hsF
 refine @Calls.mono _ (L9 lb pl) _ _ _ _ _ key fun e w' he=>?_;cases e with
 |panicked ch=>exact he.elim
 |outgrown=>exact he.elim
 |returned v=>
  obtain⟨R,rfl,hX,⟨m',F',hI,hdR⟩,hos,lo0,vr1,H2,eg0⟩:=he;obtain⟨r,rfl,hR'⟩:∃r,F'=SF p m' (pT p sc sn) r/\j4 p m' w' (pT p sc sn) r:=hI;have L3:∀(b:Nat)(cs:Array Value),w0.heap.size <=b->I0 w b cs 45->I0 w' b cs 45:=fun b cs hlo hB=>by
   refine(eg0 b (S3 hB).lt fun hF2=>?_).trans hB;rcases hFT b hF2 with⟨z,_⟩|⟨ds,T,hD,_,h2⟩
   ·omega
   ·exact I0.ne hD hB h2 rfl
  refine⟨p,R,m',r,rfl,⟨rfl,rfl,rfl,rfl,rfl,rfl⟩,hP,⟨hR',hX,fun b hr=>?_,hP⟩,hb.trans ⟨hos,vr1,lo0,H2,fun k hk=>?_⟩,H2,L3⟩
  ·rcases hRO b hr with z|⟨cs,T,hB,_,_,_,_,_,h6⟩
   ·exact .inl z
   ·exact .inr ⟨cs,T,hB,h6⟩
  by_cases hkF:SF p m0 jx0 r0 k
  ·exact hR'.ro k (he1 k hk hkF)
  ·exact eg0 k (Nat.lt_of_lt_of_le hk hb.size) hkF
end
section
variable[Ctx prog]
end
section
theorem dw1:prog.built 99 []=some #[.bool false]:=by kernel_rfl
end
section
variable[Ctx prog]
theorem Yv0(x:Int)(w0:World):C prog 15 #[.i x] w0 fun v w=>v= .i x/\w=w0:=by
 refine C.enter (n:=4) func15 rfl rfl<|U0 ?_;refine U7 ?_;refine U92 ?_;exact U33
theorem dx1(tb k oc:Nat)(oa:Option Addr)(w0:World):C prog 40 #[.p tb,.slice oa k oc] w0 fun v w=>∃x y,v= .func (.func 72) #[] #[.p x,.p y]/\I0 w x #[.slice oa k oc] 86/\I0 w y #[.p tb] 23/\Below w0.heap.size w0 w:=by
 refine C.enter (n:=6) func40 rfl rfl<|U2 ?_;intro hb;refine L.box (cs:=#[.p tb]) rfl rfl (fun w b2 F2=>?_);refine U21 ?_;intro lt2 hb;have Y1:=F2.blk;refine L.box (cs:=#[.slice oa k oc]) rfl rfl (fun w b3 F3=>?_);refine U145 ?_;intro lt3 hb;have Y1:=Y1.j0 F3.below;have o5:=F3.blk;refine L.va Q5<|U6 ?_;refine L.va (p6 (l:=[.tmp 3,.tmp 2]) (vs:=[.p b3,.p b2]) rfl)<|L.va (Lt0 rfl)<|U1 ?_;refine U15 ?_;exact⟨b3,b2,rfl,o5,Y1,hb⟩
theorem Hw0(w0:World):C prog 13 #[] w0 fun v w=>∃wb,v= .p wb/\w0.heap.size <=wb/\I0 w wb #[.bool false] 99/\Below w0.heap.size w0 w:=by
 refine C.enter (n:=3) func13 rfl rfl<|U2 ?_;intro hb;refine U64 ?_;refine L.va (P2 (parts:=[]) rfl dw1)<|L.box (cs:=#[.bool false]) rfl rfl (fun w b2 F2=>?_);refine U21 ?_;intro lt2 hb;have Y1:=F2.blk;refine U117 ?_;exact⟨b2,rfl,lt2,Y1,hb⟩
theorem ne1{n obj:Int}{m bc sn scp:Nat}{bo:Nat->List SOp}{ba sa:Option Addr}{oa:Nat->Option Addr}{oc:Nat->Nat}(w0:World)(hm:m <=1000000000000)(hsn:sn <=9223372036854775807)(hBo:ay0 w0 ba m bo oa oc):C prog 18 #[.agg #[.i obj,.i n,.slice ba m bc,.slice sa sn scp]] w0 fun v w=>∃b,v= .bool b/\(b=true->du1 n m bo sn/\sn <=2000)/\Below w0.heap.size w0 w:=by
 refine C.enter (n:=44) func18 rfl rfl ?_;have hb:Below w0.heap.size w0 w0:=Below.refl _ _;have hlen:=hBo.len;refine U0 ?_;refine L.box (cs:=#[.i obj,.i n,.slice ba m bc,.slice sa sn scp]) rfl rfl (fun w b1 F1=>?_);have lt1:=F1.lq hb.size;have hb:=B0 hb F1.below;have hBo:=hBo.j0 F1.below;have V8:=F1.blk;refine U65 ?_;refine U17 ?_;refine U0 ?_;refine U238 ?_;refine W.loop (fun k e w=>∃(i:Nat),∃(x:Int),k=m-i/\e 1= .p b1/\e 3= .i x/\e 4= .i (i:Nat)/\i <=m/\(i <=16->x=(bh0 (fun j=>(bo j).length) i:Nat))/\ay0 w ba m bo oa oc/\I0 w b1 #[.i obj,.i n,.slice ba m bc,.slice sa sn scp] 39/\Below w0.heap.size w0 w) _ ⟨0,0,rfl,rfl,rfl,rfl,Nat.zero_le _,(fun _=>rfl),hBo,V8,hb⟩ ?_;rintro k e w ⟨i,x,hk,s1,s3,s4,hi,hx,hBo,V8,hb⟩;rw[L0 s1,L0 s3,L0 s4];clear s1 s3 s4;refine U146 ?_;refine U318 ?_;refine U216 ?_;refine W.m6 rfl (fun h9=>?_) (fun h9=>?_)
 ·have O1:i<m:=by omega
  have hle:=hlen i O1;refine U39 ?_;refine U136 ?_;refine U263 ?_;refine U491 ?_;refine L.va (q0 (v:=.slice (oa i) (bo i).length (oc i)) rfl underlying86 rfl ((hBo).row i O1))<|L.va (A7 rfl underlying86 rfl)<|L.va (jn0 (κ:=.i64) (m:=x) (k:=((bo i).length:Int)) rfl rfl)<|L.va (fd0 rfl)<|L.nil<|U133 ?_;refine U30 ?_;exact⟨_,by omega,⟨i+1,_,rfl,rfl,rfl,rfl,Uo,(Qe0 hlen O1 hx),hBo,V8,hb⟩⟩
 ·have him:i=m:=by omega
  refine W.exit<|U44 ?_;refine L.va (A0 rfl underlying39 rfl sz3 Ud)<|L.va (q0 rfl underlying3 rfl (V8.E0 1 (v:=.i n) rfl))<|L.va (zp0 rfl rfl)<|L.va (n8 rfl)<|L.kk0 4 [23,24,25,26,27] 27 (.bool (decide ((1:Int) <=n/\n <=(64:Int)))) (tj:=23) rfl (fun ng1=>?_) (fun ng1=>?_) (fun f=>?_)
  ·refine L.on rfl<|L.va (A0 rfl underlying39 rfl sz3 Ud)<|L.on rfl<|L.va (q0 rfl underlying3 rfl (V8.E0 1 (v:=.i n) rfl))<|U353 ?_;refine⟨rfl,congrArg Value.bool (by first|exact zr0 ng1|rfl|(simp_all;done)|(rw[Bool.eq_iff_iff];simp_all;omega)),?_⟩;exact Ug
  ·refine L.off rfl<|U47 ?_;refine U19 ?_;refine⟨rfl,congrArg Value.bool (by first|exact zq0 ng1|rfl|(simp_all;done)|(rw[Bool.eq_iff_iff];simp_all;omega)),?_⟩;exact Ug
  refine L.va (n8 rfl)<|L.kk0 5 [28,29,30,31,32,33] 33 (.bool (decide (((1:Int) <=n/\n <=(64:Int))/\m <=16))) (tj:=28) rfl (fun nh1=>?_) (fun nh1=>?_) (fun f=>?_)
  ·refine L.on rfl<|L.va (A0 rfl underlying39 rfl qc1 Ud)<|L.on rfl<|L.va (q0 rfl underlying36 rfl (V8.E0 2 (v:=.slice ba m bc) rfl))<|L.on rfl<|L.va (A7 rfl underlying36 rfl)<|U353 ?_;refine⟨rfl,congrArg Value.bool (by first|exact zr0 nh1|rfl|(simp_all;done)|(rw[Bool.eq_iff_iff];simp_all;omega)),?_⟩;exact Ug
  ·refine L.off rfl<|U82 ?_;refine U19 ?_;refine⟨rfl,congrArg Value.bool (by first|exact zq0 nh1|rfl|(simp_all;done)|(rw[Bool.eq_iff_iff];simp_all;omega)),?_⟩;exact Ug
  refine L.va (n8 rfl)<|L.kk0 3 [34,35,36,37] 37 (.bool (decide ((((1:Int) <=n/\n <=(64:Int))/\m <=16)/\x <=(200:Int)))) (tj:=34) rfl (fun ni1=>?_) (fun ni1=>?_) (fun f=>?_)
  ·refine L.on rfl<|U26 ?_;refine U467 ?_;refine⟨rfl,congrArg Value.bool (by first|exact zr0 ni1|rfl|(simp_all;done)|(rw[Bool.eq_iff_iff];simp_all;omega)),?_⟩;exact Ug
  ·refine L.off rfl<|L.off rfl<|U19 ?_;refine⟨rfl,congrArg Value.bool (by first|exact zq0 ni1|rfl|(simp_all;done)|(rw[Bool.eq_iff_iff];simp_all;omega)),?_⟩;exact Ug
  refine L.va (n8 rfl)<|L.kk0 5 [38,39,40,41,42,43] 43 (.bool (decide (((((1:Int) <=n/\n <=(64:Int))/\m <=16)/\x <=(200:Int))/\sn <=2000))) (tj:=38) rfl (fun nj1=>?_) (fun nj1=>?_) (fun f=>?_)
  ·refine L.on rfl<|L.va (A0 rfl underlying39 rfl Ji0 Ud)<|L.on rfl<|L.va (q0 rfl underlying37 rfl (V8.E0 3 (v:=.slice sa sn scp) rfl))<|L.on rfl<|L.va (A7 rfl underlying37 rfl)<|U353 ?_;refine⟨rfl,congrArg Value.bool (by first|exact zr0 nj1|rfl|(simp_all;done)|(rw[Bool.eq_iff_iff];simp_all;omega)),?_⟩;exact Ug
  ·refine L.off rfl<|U82 ?_;refine U19 ?_;refine⟨rfl,congrArg Value.bool (by first|exact zq0 nj1|rfl|(simp_all;done)|(rw[Bool.eq_iff_iff];simp_all;omega)),?_⟩;exact Ug
  refine U8 ?_;refine U15 ?_;refine⟨_,rfl,fun h=>?_,hb⟩;obtain⟨⟨⟨g1,g2⟩,g3⟩,g4⟩:=of_decide_eq_true h;subst him;have hs:=hx g2;exact⟨⟨g1,g2,by omega,Nat.le_trans g4 Ud⟩,g4⟩
end
section
theorem Yw0{lb:Nat}{pl:Nat->O7}{obj:Int}{n m bc sn scp:Nat}{bo:Nat->List SOp}{sc:Nat->Int}{ba sa:Option Addr}{oa:Nat->Option Addr}{oc:Nat->Nat}(w0:World)(hBo:ay0 w0 ba m bo oa oc)(hz:∀i,m <=i->bo i=[])(hks:∀i o,o∈bo i->o.key.size <=1000000000000)(hSc:wv0 w0 sa sn scp sc)(hF:du1 n m bo sn):@C prog (L9 lb pl) 19 #[.agg #[.i obj,.i (n:Int),.slice ba m bc,.slice sa sn scp]] w0 fun v w=>∃(p:C5) (R:Rn) (mF:Gm) (r:F6),v= .tuple #[Uw0 R,.p p.tb,.bool true]/\(p.m=m/\p.bo=bo/\p.n=n/\p.obj=obj/\p.B=w0.heap.size)/\az0 p sc sn w0.heap.size w R mF r/\Below w0.heap.size w0 w:=by
 letI:Ctx prog:=L9 lb pl;refine C.enter (n:=57) func19 rfl rfl ?_;have hb:Below w0.heap.size w0 w0:=Below.refl _ _;have vs1:=hF.m1;have hn1:0<n/\n <=64:=by have:=hF.n1;omega
 refine U0 ?_;refine L.box (cs:=#[.i obj,.i (n:Int),.slice ba m bc,.slice sa sn scp]) rfl rfl (fun w b1 F1=>?_);have lt1:=F1.lq hb.size;have hb:=B0 hb F1.below;have V8:=F1.blk;refine L.alloc (cs:=#[.slice none 0 0,.slice none 0 0,.slice none 0 0,.slice none 0 0,.bool false,.i 0]) Th0 rfl (fun w b2 F2=>?_);refine U21 ?_;intro lt2 hb;have V8:=V8.j0 F2.below;have Y1:=F2.blk;refine U100 ?_;refine U5 ?_;refine W.fl 10 [0,5] [1,2,3,4,0,5,6,7,8,9] (fun w'=>I0 w' b1 #[.i obj,.i (n:Int),.slice ba m bc,.slice sa sn scp] 39) Uk Uk Uk Uk Uk (V8.j0 (Below.refl w.heap.size w).drew)<|U24 ?_;intro G4 hb;have V8:=V8.j0 G4;have Y1:=Y1.j0 G4;clear G4;generalize w.drew=w at *;refine F.va rfl rfl (fun w' W0=>(A0 rfl underlying39 rfl sz3 Ud))<|F.va rfl rfl (fun w' W0=>(q0 rfl underlying3 rfl (W0.E0 0 (v:=.i obj) rfl)))<|F.va rfl rfl (fun w' W0=>(A0 rfl underlying39 rfl sz3 Ud))<|F.va rfl rfl (fun w' W0=>(q0 rfl underlying3 rfl (W0.E0 1 (v:=.i (n:Int)) rfl)))<|F.doo rfl rfl<|L.call (lb0  func13 rfl xo1 rfl) (Hw0 _) ?_;rintro _ w ⟨wb,rfl,hwb,hW,L2⟩;have hwb:=Nat.le_trans hb.size hwb;have hb:=B0 hb L2;have V8:=V8.j0 L2;have Y1:=Y1.j0 L2;refine L.nil ⟨rfl,V8,?_⟩;refine F.doo rfl rfl<|L.call (D6 rfl rfl rfl func12 rfl xn1 rfl) (ct1 wb obj n hn1.1 hn1.2 _ hW) ?_;rintro _ w ⟨tb,rw_,ls,cl,bk,rfl,htl,hT,hL,hQ,L2⟩;have hL:TLk w w0.heap.size obj rw_ ls n:=⟨fun j hj=>let⟨a,b,c,d⟩:=hL.all j hj;⟨Nat.le_trans hb.size a,Nat.le_trans hb.size b,c,d⟩⟩
 have hQ:TCl w w0.heap.size wb (oW obj 1) cl bk n:=⟨fun j hj=>let⟨a,b,c,d⟩:=hQ.all j hj;⟨Nat.le_trans hb.size a,Nat.le_trans hb.size b,c,d⟩⟩
 have hb:=B0 hb L2;have V8:=V8.j0 L2;have Y1:=Y1.j0 L2;have hW:=hW.j0 L2;refine L.nil ⟨rfl,V8,?_⟩;refine U195 ?_;refine U198 ?_;refine U118 ?_;refine L.call (N2 rfl func15 rfl jr1 rfl) (Yv0 _ w) ?_;rintro _ w1 ⟨rfl,hw⟩;refine U29 ?_;refine L.va (O8 (r:=false) Ud (pu0 (m:=0) (k:=0) rfl rfl))<|U40 ?_;refine L.va (v5 rfl rfl underlying23)<|L.va (H7 rfl)<|U34 ?_;refine L.va (kg0 rfl)<|U28 ?_;refine U238 ?_;refine W.loop (fun k e w=>∃(i:Nat),∃(l:Option Addr),∃(lc:Nat),∃(c1:Nat->Nat),∃(c2:Nat->Nat),k=m-i/\e 1= .p b1/\e 2= .p b2/\e 5= .p tb/\e 7= .slice l i lc/\e 8= .i (i:Nat)/\i <=m/\Own w w0.heap.size 72 1 l i lc ((List.range i).map (fvT c1 c2))/\em0 w i tb bo oa oc c1 c2/\I0 w tb (arr 131 (bg0 wb obj n rw_ cl n n)) 92/\TLk w w0.heap.size obj rw_ ls n/\TCl w w0.heap.size wb (oW obj 1) cl bk n/\I0 w wb #[.bool false] 99/\I0 w b1 #[.i obj,.i (n:Int),.slice ba m bc,.slice sa sn scp] 39/\I0 w b2 #[.slice none 0 0,.slice none 0 0,.slice none 0 0,.slice none 0 0,.bool false,.i 0] 45/\Below w0.heap.size w0 w) _ ⟨0,none,0,(fun _=>0),(fun _=>0),rfl,rfl,rfl,rfl,rfl,rfl,Nat.zero_le _,Own.nil _ _ _ _,⟨fun i hi=>absurd hi (Nat.not_lt_zero _)⟩,hT,hL,hQ,hW,V8,Y1,hb⟩ ?_;rintro k e w ⟨i,l,lc,c1,c2,hk,s1,s2,s5,s7,s8,hi,hl,hx,hT,hL,hQ,hW,V8,Y1,hb⟩;rw[L0 s1,L0 s2,L0 s5,L0 s7,L0 s8];clear s1 s2 s5 s7 s8;refine U146 ?_;refine U318 ?_;refine U216 ?_;refine W.m6 rfl (fun h32=>?_) (fun h32=>?_)
 ·have O1:i<m:=by omega
  refine U39 ?_;refine W.region rfl<|U317 ?_;refine U263 ?_;refine U491 ?_;refine L.va (q0 (v:=.slice (oa i) (bo i).length (oc i)) rfl underlying86 rfl ((hBo.j0 hb).row i O1))<|L.call (B2 rfl rfl func40 rfl xw1 rfl) (dx1 tb (bo i).length (oc i) (oa i) _) ?_;rintro _ w ⟨x,y,rfl,hbx,hby,L2⟩;have hb:=B0 hb L2;have hl:=hl.j0 L2;have hx:=hx.j0 L2;have hT:=hT.j0 L2;have hL:=hL.j0 L2;have hQ:=hQ.j0 L2;have hW:=hW.j0 L2;have V8:=V8.j0 L2;have Y1:=Y1.j0 L2;refine L.cx0 (cs:=#[.func (.func 72) #[] #[.p x,.p y]]) rfl rfl underlying101 qf1 rfl ⟨_,xj1⟩ Ud (fun w b43 F43=>?_);have Bm1:=F43.lq hb.size;have hb:=B0 hb F43.below;have hl:=hl.j0 F43.below;have hx:=hx.j0 F43.below;have hT:=hT.j0 F43.below;have hL:=hL.j0 F43.below;have hQ:=hQ.j0 F43.below;have hW:=hW.j0 F43.below;have V8:=V8.j0 F43.below;have Y1:=Y1.j0 F43.below;have hbx:=hbx.j0 F43.below;have hby:=hby.j0 F43.below;have Ah1:=F43.blk;refine L.dr0 (B:=w0.heap.size) (m:=1) rfl rfl underlying101 xk1 rfl Ud hl Uz (news:=[.func (.func 72) #[] #[.p x,.p y]]) rfl (fun ad had j u hj=>by
   cases had;rw[Addr.add_lit]
   match j,hj with
   |0,hj=>cases hj;exact Ah1.E0 0 rfl) (fun u hu=>by simp only[List.mem_cons,List.not_mem_nil,or_false]at hu;subst hu;rfl) Uo Uo hb.size (fun l2 lc2 w2 hO2 hg2 A1 _=>?_)
  have hmo:y5 w w2 w0.heap.size [72]:=y5.app hl hg2 A1 rfl hO2;have hb:=hb.trans A1;have hx:=hx.mod hmo rfl;have hT:=hT.mod hmo rfl;have hL:=hL.mod hmo rfl;have hQ:=hQ.mod hmo rfl;have hW:=hW.mod hmo rfl;have V8:=V8.mod hmo rfl;have Y1:=Y1.mod hmo rfl;have hbx:=hbx.mod hmo rfl;have hby:=hby.mod hmo rfl;clear hmo hg2 A1 hl
  rename World=>w
  refine U329 ?_;refine U133 ?_;refine U30 ?_;exact⟨_,by omega,⟨i+1,l2,lc2,(P3 c1 i x),(P3 c2 i y),rfl,rfl,rfl,rfl,rfl,rfl,Uo,(by rw[Qf0];exact hO2),(hx.snoc hbx hby),hT,hL,hQ,hW,V8,Y1,hb⟩⟩
 ·obtain rfl:m=i:=by omega
  refine W.exit<|U143 ?_;refine U23 ?_;refine L.va (A0 rfl underlying39 rfl Ji0 Ud)<|L.va (q0 rfl underlying37 rfl (V8.E0 3 (v:=.slice sa sn scp) rfl))<|L.call (B2 rfl rfl func41 rfl xx1 rfl) (Kx0 hBo hz hks hSc hF hb hl hW hT hL hQ hx) ?_;have h2l:=Y1.lt;rintro _ w1 ⟨p,R,mF,r1,rfl,⟨pm,pbo,pn,nk1,ptb,pB⟩,hP,hY,L2,H2,hrn⟩;have Y1:=hrn _ _ lt2 Y1;have hb:=L2;clear L2 hW hT hL hQ hx hrn hl V8
  rename World=>w
  refine U80 ?_;have Hx0:=hY;have hl1:=Y1;have Hy0:=hb;refine L.alloc (cs:=#[.slice none 0 0,.slice none 0 0,.slice none 0 0,.slice none 0 0,.bool false,.i 0]) Th0 rfl (fun w b9 F9=>?_);have lt9:=F9.lq hb.size;have nl1:=F9.ne Y1;have Y8:=F9.blk;refine L.pa [.slice R.ea R.evs.length R.ec,.slice R.na R.nts.length R.nc,.slice (pt R.eb) R.m R.m,.slice (pt R.wb) R.m R.m,.bool R.stuck,.i (R.used:Int)] nn0 Y8 (fun w G1 hg H2=>?_);have hbA:=W3 F9.below F9.below.size hg (by have:=F9.here;omega);have hY:=Hx0.j0 hbA;have Y1:=hl1.j0 hbA;have hb:=B0 Hy0 hbA;have Y8:=G1;clear G1 hg H2 hbA F9 Hx0 hl1 Hy0;refine U17 ?_;refine W.fl 7 [3,5] [0,1,2,3,4,5,6] (fun w'=>I0 w' b9 #[.slice R.ea R.evs.length R.ec,.slice R.na R.nts.length R.nc,.slice (pt R.eb) R.m R.m,.slice (pt R.wb) R.m R.m,.bool R.stuck,.i (R.used:Int)] 45) Uk Uk Uk Uk Uk (Y8.j0 (Below.refl w.heap.size w).drew)<|U24 ?_;intro G4 hb;have hY:=hY.j0 G4;have Y1:=Y1.j0 G4;have Y8:=Y8.j0 G4;clear G4;generalize w.drew=w at *;refine F.va rfl rfl (fun w' W0=>(A2 (cs:=[.slice R.ea R.evs.length R.ec,.slice R.na R.nts.length R.nc,.slice (pt R.eb) R.m R.m,.slice (pt R.wb) R.m R.m,.bool R.stuck,.i (R.used:Int)]) rfl underlying45 rfl nn0 rfl (W0.R7 rfl)))<|U72 ?_;refine F.doo rfl rfl<|L.call (N2 rfl func15 rfl jr1 rfl) (Yv0 _ w) ?_;rintro _ w1 ⟨rfl,hw⟩;refine U29 ?_;refine L.nil ⟨rfl,Y8,?_⟩;refine F.va rfl rfl (fun w' W0=>(O8 (r:=true) Ud (dy0 (m:=0) (k:=0) rfl rfl)))<|F.doo rfl rfl<|L.pu 0 [.slice R.ea R.evs.length R.ec,.slice R.na R.nts.length R.nc,.slice (pt R.eb) R.m R.m,.slice (pt R.wb) R.m R.m,.bool R.stuck,.i (R.used:Int)] #[.slice R.ea R.evs.length R.ec,.slice R.na R.nts.length R.nc,.slice (pt R.eb) R.m R.m,.slice (pt R.wb) R.m R.m,.bool R.stuck,.i (R.used:Int)] nn0 Y1 (fun w G1 hg H2=>?_);have o6:=y5.gk0 Y1 hg;have hb:=W3 hb hb.size hg lt2;have hY:=hY.H6 hg ⟨⟨h2l,by rw[pB];exact lt2⟩,_,Y1⟩;have Y8:=Y8.other hg (Ne.symm nl1);have Y1:=G1;clear o6;refine L.nil ⟨rfl,Y8,?_⟩;refine U198 ?_;refine U8 ?_;refine U45 ?_;exact ends.Vv0 (cs:=#[.slice R.ea R.evs.length R.ec,.slice R.na R.nts.length R.nc,.slice (pt R.eb) R.m R.m,.slice (pt R.wb) R.m R.m,.bool R.stuck,.i (R.used:Int)]) (.inr rfl) rfl rfl underlying45 rfl nn0 Y1<|⟨p,R,mF,r1,by rw[ptb];rfl,⟨pm,pbo,pn,nk1,pB⟩,hY.down Uo,hb⟩
end
section
variable{p:C5}{sc:Nat->Int}{sn B:Nat}{w:World}{R:Rn}{m:Gm}{r:F6}
theorem az0.bcl(h:az0 p sc sn B w R m r):BCl w p.wb (oW p.obj 1) p.cl p.n (fun j=>some ⟨va m j ((pT p sc sn).st j).R3,0,none⟩) (fun j=>((pT p sc sn).st j).V0) (fun j=>vc m j ((pT p sc sn).st j).R3) (fun j=>((pT p sc sn).st j).l.length) (fun j=>(((pT p sc sn).st j).made:Nat)):=⟨fun j hj=>h.mem.cl j hj⟩
theorem vt1(hp:C6 p)(sc:Nat->Int)(sn:Nat):TOk p.n p.m p.bo (pT p sc sn) ((C1 p).pn sc sn).ft:=oa0 hp.n.1 _ (.inr ⟨sc,sn,rfl⟩)
theorem az0.entries[Ctx prog](h:az0 p sc sn B w R m r):C prog 16 #[.p p.tb] w fun v w'=>v= .i (bh0 (fun j=>((pT p sc sn).st j).l.length) p.n:Nat)/\Below w.heap.size w w':=
 Pq0 p.tb p.wb p.obj (oW p.obj 1) p.n p.rw p.cl _ _ _ _ _ h.ok.n.2 w (h.mem.rob h.ok.hT) h.bcl (h.mem.rob h.ok.hW) fun j _=>Nat.le_trans ((vt1 h.ok sc sn).so.ll j) (Nat.le_trans ((vt1 h.ok sc sn).so.uf0 h.ok) Ud)
theorem az0.V0[Ctx prog](h:az0 p sc sn B w R m r){i:Nat}(hi:i<p.n):C prog 17 #[.p p.tb,.i (i:Int)] w fun v w'=>v= .i (((pT p sc sn).st i).V0:Nat)/\Below w.heap.size w w':=
 Xf0 p.tb p.wb p.obj (oW p.obj 1) p.n p.rw p.cl _ _ _ _ _ h.ok.n.2 w (h.mem.rob h.ok.hT) h.bcl (h.mem.rob h.ok.hW) i hi
end
def oe0:List SOp:=[⟨1,0,⟨#[97]⟩⟩,⟨2,0,ByteArray.empty⟩,⟨3,0,ByteArray.empty⟩,⟨4,0,ByteArray.empty⟩]
def mq0:Nat->Int:=fun _=>0
theorem dy1{p:C5}(hn:p.n=1)(hm:p.m=1)(hb:p.bo=fun i=>if i<1 then oe0 else []):((C1 p).pn mq0 20).evs.length=15/\((C1 p).pn mq0 20).ft[0]? =some (.inr 1)/\((pT p mq0 20).st 0).l.length=0/\((pT p mq0 20).st 0).V0=1:=by
 obtain⟨n,m,obj,bo,tb,wb,rw_,ls,cl,RO,wI,B,lb,pl⟩:=p;simp only at hn hm hb;subst hn hm hb;exact⟨by kernel_rfl,by kernel_rfl,by kernel_rfl,by kernel_rfl⟩
theorem Qg0{w:World}{b9 b12:Nat}(h9:I0 w b9 #[.i 1,.i 0,.string ⟨#[97]⟩,.i 2,.i 0,.string ByteArray.empty,.i 3,.i 0,.string ByteArray.empty,.i 4,.i 0,.string ByteArray.empty] 85)(h12:I0 w b12 #[.slice (pt b9) 4 4] 86):ay0 w (pt b12) 1 (fun i=>if i<1 then oe0 else []) (fun _=>some ⟨b9,0,none⟩) (fun _=>4):=by
 refine⟨fun _=>rfl,fun i hi=>?_,fun i hi=>?_,fun i hi=>?_⟩
 ·match i,hi with
  |0,_=>exact h12.E0 0 rfl
 ·simp only[if_pos hi];refine⟨fun _=>rfl,fun k o ho j v hv=>?_⟩;have hjl:j<3:=(Array.getElem?_eq_some_iff.1 hv).1;have hkl:k<4:=(List.getElem?_eq_some_iff.1 ho).1;obtain rfl|rfl|rfl|rfl:k=0\/k=1\/k=2\/k=3:=by omega
  all_goals cases ho
  all_goals obtain rfl|rfl|rfl:j=0\/j=1\/j=2:=by omega
  all_goals cases hv
  ·exact h9.E0 0 rfl
  ·exact h9.E0 1 rfl
  ·exact h9.E0 2 rfl
  ·exact h9.E0 3 rfl
  ·exact h9.E0 4 rfl
  ·exact h9.E0 5 rfl
  ·exact h9.E0 6 rfl
  ·exact h9.E0 7 rfl
  ·exact h9.E0 8 rfl
  ·exact h9.E0 9 rfl
  ·exact h9.E0 10 rfl
  ·exact h9.E0 11 rfl
 ·simp only[if_pos hi];decide
theorem dz1{w:World}{b:Nat}(h:I0 w b (Array.replicate (20*1) (.i 0)) 3):wv0 w (pt b) 20 20 mq0:=by
 refine⟨fun _=>rfl,Uz,by decide,fun j hj=>?_⟩;show w.cell? ⟨b,0+j*1,none⟩=_;rw[Nat.zero_add,Nat.mul_one];exact h.E0 j (by rw[Array.getElem?_replicate,if_pos Uo];rfl)
theorem Yx0:du1 (1:Nat) 1 (fun i=>if i<1 then oe0 else []) 20:=⟨by decide,by decide,by decide,by decide⟩
theorem ea1:∀i o,o∈(if i<1 then oe0 else [])->o.key.size <=1000000000000:=by
 intro i o ho;split at ho
 ·simp only[oe0,List.mem_cons,List.not_mem_nil,or_false]at ho;rcases ho with rfl|rfl|rfl|rfl <;> decide
 ·cases ho
theorem nn1(k:Int):prog.built 85 [(0,.i k)]=some #[.i k,.i 0,.string ByteArray.empty]:=by kernel_rfl
theorem vu1(k:Int)(q:ByteArray):prog.built 85 [(0,.i k),(2,.string q)]=some #[.i k,.i 0,.string q]:=by kernel_rfl
theorem eb1(x0:Int)(x1:Int)(x2:Option Addr)(x3:Nat)(x4:Nat)(x5:Option Addr)(x6:Nat)(x7:Nat):prog.built 39 [(0,.i x0),(1,.i x1),(2,.slice x2 x3 x4),(3,.slice x5 x6 x7)]=some #[.i x0,.i x1,.slice x2 x3 x4,.slice x5 x6 x7]:=by kernel_rfl
set_option maxRecDepth 20000 in
theorem Yy0{lb:Nat}{pl:Nat->O7}(w0:World):@C prog (L9 lb pl) 11 #[] w0 fun v w=>v= .bool true/\Below w0.heap.size w0 w:=by
 letI:Ctx prog:=L9 lb pl;refine C.enter (n:=43) func11 rfl rfl<|U2 ?_;intro hb;refine U65 ?_;refine L.va (P2 (vs:=[(0,.i 1),(2,.string ⟨#[97]⟩)]) rfl (vu1 _ _))<|L.va (P2 (vs:=[(0,.i 2)]) rfl (nn1 _))<|L.va (P2 (vs:=[(0,.i 3)]) rfl (nn1 _))<|L.va (P2 (vs:=[(0,.i 4)]) rfl (nn1 _))<|L.ku1 (vs:=[(0,.agg #[.i 1,.i 0,.string (⟨#[97]⟩)]),(1,.agg #[.i 2,.i 0,.string ByteArray.empty]),(2,.agg #[.i 3,.i 0,.string ByteArray.empty]),(3,.agg #[.i 4,.i 0,.string ByteArray.empty])]) (cs:=#[.i 1,.i 0,.string (⟨#[97]⟩),.i 2,.i 0,.string ByteArray.empty,.i 3,.i 0,.string ByteArray.empty,.i 4,.i 0,.string ByteArray.empty]) rfl underlying86 jo1 xl1 Ud Uk (fun w b9 F9=>?_);have lt9:=F9.lq hb.size;have hb:=B0 hb F9.below;have Y8:=F9.blk;refine U25 ?_;refine U23 ?_;refine L.cx0 (cs:=#[.slice (pt b9) 4 4]) rfl rfl underlying36 qg1 rfl ⟨_,xm1⟩ Ud (fun w b12 F12=>?_);have cr1:=F12.lq hb.size;have hb:=B0 hb F12.below;have Y8:=Y8.j0 F12.below;have di0:=F12.blk;refine L.make (m:=20) rfl rfl underlying37 in3 (z0:=.i 0) rfl Ud Uo Uo (fun w b13 F13=>?_);have Bn1:=F13.lq hb.size;have hb:=B0 hb F13.below;have Y8:=Y8.j0 F13.below;have di0:=di0.j0 F13.below;have Ai1:=F13.blk;refine L.va (P2 (parts:=[(0,.const (.i 1)),(1,.const (.i 1)),(2,.tmp 12),(3,.tmp 13)]) rfl (eb1 1 1 (pt b12) 1 1 (pt b13) 20 20))<|L.call (N2 rfl func19 rfl qu1 rfl) (Yw0 (n:=1) w (Qg0 Y8 di0) (fun i hi=>if_neg Uo) ea1 (dz1 Ai1) Yx0) ?_;rintro _ w1 ⟨p,R,mF,r1,rfl,⟨pm,pbo,pn,nk1,pB⟩,hY,L2⟩;have hb:=B0 hb L2;clear L2
 rename World=>w
 obtain⟨l1,l2,l3,l4⟩:=dy1 pn pm pbo;have hev:R.evs.length=15:=by rw[hY.run.evs];exact l1
 have hen:R.ends[0]? =some 1:=by rw[hY.run.ends 0 (by show 0<p.m;omega),l2];rfl
 refine U80 ?_;refine L.va (K6 rfl rfl) ?_;have Hx0:=hY;have Hy0:=hb;refine L.alloc (cs:=#[.slice none 0 0,.slice none 0 0,.slice none 0 0,.slice none 0 0,.bool false,.i 0]) Th0 rfl (fun w b2 F2=>?_);have lt2:=F2.lq hb.size;have Y1:=F2.blk;refine L.pa [.slice R.ea R.evs.length R.ec,.slice R.na R.nts.length R.nc,.slice (pt R.eb) R.m R.m,.slice (pt R.wb) R.m R.m,.bool R.stuck,.i (R.used:Int)] nn0 Y1 (fun w G1 hg H2=>?_);have hbA:=W3 F2.below F2.below.size hg (by have:=F2.here;omega);have hY:=Hx0.j0 hbA;have hb:=B0 Hy0 hbA;have Y1:=G1;clear G1 hg H2 hbA F2 Hx0 Hy0;refine L.va (Z9 rfl)<|U65 ?_;refine L.va (n8 rfl)<|U36 ?_;refine L.va (A0 rfl underlying45 rfl Tg0 Ud)<|L.on rfl<|L.va (q0 rfl underlying41 rfl (Y1.E0 0 (v:=.slice R.ea R.evs.length R.ec) rfl))<|L.on rfl<|L.va (Da0 (m:=15) (by rw[hev];rfl) rfl underlying41 rfl)<|L.on rfl<|L.va (O8 (r:=true) Ud (dy0 (m:=15) (k:=15) rfl rfl))<|L.va (k7 rfl)<|U36 ?_;refine L.va (A0 rfl underlying45 rfl Ji0 Ud)<|L.on rfl<|L.va (q0 rfl underlying37 rfl (Y1.E0 2 (v:=.slice (pt R.eb) R.m R.m) rfl))<|L.on rfl<|L.va (Q7 (i:=0) rfl rfl underlying37 sz3 (fun _=>rfl) (by have h8:=(List.getElem?_eq_some_iff.1 hen).1;have h9:=hY.run.mem.jv0;omega)) ?_;refine L.on rfl<|L.va (q0 (v:=.i 1) rfl underlying3 rfl ((show I0 w R.eb _ _ from hY.run.mem.ends).E0 0 (by rw[List.getElem?_toArray,List.getElem?_map,hen];rfl))) ?_;refine L.on rfl<|U492 ?_;refine U40 ?_;refine L.call (N2 rfl func16 rfl xp1 rfl) hY.entries ?_;rintro _ w ⟨rfl,L2⟩;have hb:=B0 hb L2;have hY:=hY.j0 L2;clear L2;have hs0:bh0 (fun j=>((pT p mq0 20).st j).l.length) p.n=0:=by rw[pn,W8];show bh0 _ 0+((pT p mq0 20).st 0).l.length=0;rw[l3];rfl
 rw[hs0];refine U227 ?_;refine U40 ?_;refine L.call (B2 rfl rfl func17 rfl xq1 rfl) (hY.V0 (i:=0) Uo) ?_;rintro _ w ⟨rfl,L2⟩;have hb:=B0 hb L2;clear L2;rw[l4];refine L.on rfl<|U492 ?_;exact U156
section
end
def unE:Ph->Option Nat
 | .E6 e=>some e
 |_=>none
def wt:Ph->Nat
 | .bn0=>15| .look=>14| .more _=>13| .run _=>12| .mo0=>13| .lck=>12| .jf0=>11| .bo0 _=>10| .make=>10| .unl _=>9
 | .G9 _=>8| .E6 _=>7
 | .less _=>6| .ie0 _=>5| .et0 _=>4| .Q3 _=>3| .out _=>2| .cr0 _=>1
section
end
section
variable{p:C5}
theorem ui0(p:C5)(q:PR (C1 p))(e:Int):((C1 p).step q e=q/\(C1 p).rds q=[])\/∃(i:Nat) (b:Lb),(C1 p).step q e=(C1 p).n6 q i/\i<p.m/\q.ft[i]? =some (.inl b)/\H9 b q.s=true:=by
 unfold Sys.step;cases h:((C1 p).rds q)[ax0 e ((C1 p).rds q).length]? with
 |none=>
  refine .inl ⟨rfl,?_⟩;rcases Nat.eq_zero_or_pos ((C1 p).rds q).length with z|z
  ·exact List.length_eq_zero_iff.1 z
  ·exfalso;have h1:=List.getElem?_eq_none_iff.1 h;have h2:ax0 e ((C1 p).rds q).length<((C1 p).rds q).length:=by
    unfold ax0;have a:=Int.emod_nonneg e (b:=(((C1 p).rds q).length:Int)) Uo;have b:=Int.emod_lt_of_pos e (b:=(((C1 p).rds q).length:Int)) Uo;omega
   omega
 |some i=>
  obtain⟨h1,h2⟩:=Sys.Dr0 h;unfold Sys.kn0 at h2;cases hx:q.ft[i]? with
  |none=>rw[hx]at h2;cases h2
  |some f=>
   cases f with
   |inr x=>rw[hx]at h2;cases h2
   |inl b=>rw[hx]at h2;exact .inr ⟨i,b,rfl,h1,hx,h2⟩
end
def kB:ByteArray:=ByteArray.mk #[107]
def eB:ByteArray:=ByteArray.mk #[]
def Aj1(s:H4):Option (Lb ⊕ Nat)->ByteArray
 |some (.inl b)=>match unE b.ph with
  |some e=>kB++(gE s e).key
  |none=>eB
 |_=>eB
def Ak1:Ph->Nat
 | .G9 _=>1
 | .E6 _| .less _| .ie0 _| .et0 _| .Q3 _| .out _| .cr0 _=>2
 |_=>0
def Al1(ks:List ByteArray):Option (Lb ⊕ Nat)->Nat
 |some (.inl b)=>2*((b.k-1)/6)+Ak1 b.ph
 |some (.inr _)=>2*ks.length
 |none=>0
section
end
section
variable{p:C5}{ks:Nat->List ByteArray}
def no1(q:PR (C1 p))(c:Nat):ByteArray:=Aj1 q.s q.ft[c]?
def vv1(ks:Nat->List ByteArray)(q:PR (C1 p))(c:Nat):Nat:=Al1 (ks c) q.ft[c]?
def Pre(ks:Nat->List ByteArray)(S:Nat->PR (C1 p))(Q:PR (C1 p))(i n:Nat)(H:Nat->ByteArray)(C:Nat->Nat):Prop:=
 (n=(S i).nts.length/\H=no1 (S i)/\C=vv1 ks (S i)) \/
 (∃(c:Nat) (txt:ByteArray),c<p.m/\n+1=(S i).nts.length/\Q.nts[n]? =some (i,c,⟨1,txt⟩)/\P3 C c (C c+1)=vv1 ks (S i) /\
  ((∃key,(C c+1)%2=0/\0<C c+1/\(ks c)[(C c+1)/2-1]? =some key/\(∀k,H k≠kB++key)/\P3 H c (kB++key)=no1 (S i))\/((C c+1)%2=1/\H=no1 (S i))))
end
end Go.Vy.Sc
end
