/- What the claim leans on, part 6. Laws. -/
import Derived.Test.YtinppmaojmdmhaaGreatKB5
set_option linter.unusedVariables false
section
namespace Go.Vy.Sc
open Go Go.Conc Go.Yc Go.RowKit Go.Proofs Go.Proofs.YtinppmaojmdmhaaGreat Tryz
open Go.Vc Go.Wg
theorem nl1 (obj:Int):prog.built 56 [(0,.int .i64 obj)]=some #[.int .i64 obj,.slice none 0 0,.slice none 0 0]:=by kernel_rfl
theorem nn1:prog.built 52 [(4,.int .i64 1)]=some #[.bool false,.int .i64 0,.slice none 0 0,.int .i64 0,.int .i64 1]:=by kernel_rfl
abbrev ch1:List Value:=[.bool false,.int .i64 0,.slice none 0 0,.int .i64 0,.int .i64 1]
def Bq0 (n:Nat):List Value:=(List.range n).flatMap fun _=>ch1
theorem Ek0 (n:Nat):Bq0 (n+1)=Bq0 n++ch1:=by unfold Bq0;rw[List.range_succ,List.flatMap_append];simp
section
variable [Ctx prog]
end
section
theorem k7.new {w:World} {wb n:Nat} {obj:Int} {B:Nat} {cl bk:Nat->Nat} (h:TCl w B wb obj cl bk n):BCl w wb obj cl n (fun j=>some ⟨bk j,0,none⟩) (fun _=>1) (fun _=>1) (fun _=>0) (fun _=>0):=⟨fun j hj=>(h.all j hj).2.2.1⟩
theorem no1 (n:Nat):C9 (fun _=>0) n=0:=by have:=nh0 (f:=fun _=>0) (n:=n) (B:=0) fun _ _=>Nat.le_refl _;omega
end
section
variable [Ctx prog]
theorem Ul0 (obj n:Int) (hn:n<1) (w0:World):C prog 14 #[.int .i64 obj,.int .i64 n] w0 fun v w=>v= .tuple #[.pointer none,.int .i64 2]/\Below w0.heap.size w0 w:=by
 refine U325 ?_;intro hb;refine U17 ?_;refine U479 ?_;refine U121 ?_;refine L.va (P5 rfl) ?_;refine U42 ?_;refine U17 ?_;exact U133
theorem Um0 (obj n:Int) (hn:64<n) (w0:World):C prog 14 #[.int .i64 obj,.int .i64 n] w0 fun v w=>v= .tuple #[.pointer none,.int .i64 2]/\Below w0.heap.size w0 w:=by
 refine U325 ?_;intro hb;refine U17 ?_;refine U146 ?_;refine U64 ?_;refine U454 ?_;refine U42 ?_;refine U17 ?_;exact U133
theorem ci1 (obj:Int) (n:Nat) (h0:0<n) (hn:n <=64) (w0:World):C prog 14 #[.int .i64 obj,.int .i64 (n:Int)] w0 fun v w=>∃rt a c,v= .tuple #[.pointer (some ⟨rt,0,none⟩),.int .i64 0]/\w0.heap.size <=rt/\K0 w rt #[.int .i64 obj,.slice a n c,.slice none 0 0] 56/\Own w w0.heap.size 52 5 a n c (Bq0 n)/\Below w0.heap.size w0 w:=by
 refine U325 ?_;intro hb;refine U17 ?_;refine U146 ?_;refine U280 ?_;refine U47 ?_;refine U80 ?_;refine L.va (P2 (vs:=[(0,.int .i64 obj)]) rfl (nl1 obj)) ?_;refine L.box (cs:=#[.int .i64 obj,.slice none 0 0,.slice none 0 0]) rfl rfl (fun w b16 F16=>?_);have Dq0:=F16.lq hb.size;have hb:=G0 hb F16.below;have Ao0:=F16.blk;refine U15 ?_;refine U6 ?_;refine U230 ?_;refine W.loop (fun k e w=>∃(i:Nat),∃(a:Option Addr),∃(c:Nat),k=n-i/\e 0= .int .i64 obj/\e 1= .int .i64 (n:Int)/\e 6= .pointer (some ⟨b16,0,none⟩)/\e 7= .int .i64 (i:Nat)/\i <=n/\Below w0.heap.size w0 w/\K0 w b16 #[.int .i64 obj,.slice a i c,.slice none 0 0] 56/\Own w w0.heap.size 52 5 a i c (Bq0 i)) _ ⟨0,none,0,rfl,rfl,rfl,rfl,rfl,Nat.zero_le _,hb,Ao0,Own.nil _ _ _ _⟩ ?_;rintro k e w ⟨i,a,c,hk,s0,s1,s6,s7,hi,hb,hR,hO⟩;rw[S0 s0,S0 s1,S0 s6,S0 s7];clear s0 s1 s6 s7;refine U19 ?_;refine L.va (V3 rfl) ?_;refine U78 ?_;refine W.K6 rfl (fun h19=>?_) (fun h19=>?_)
 ·have N1:i<n:=by omega
  refine U120 ?_;refine U534 ?_;refine U11 ?_;refine L.va (E0 rfl underlying56 rfl Yf0 (by decide)) ?_;refine L.va (A0 rfl underlying53 rfl (hR.q0 1 (v:=.slice a i c) rfl)) ?_;refine L.va (P2 (vs:=[(4,.int .i64 1)]) rfl nn1) ?_;refine L.ca0 (cs:=#[.bool false,.int .i64 0,.slice none 0 0,.int .i64 0,.int .i64 1]) rfl rfl underlying53 kc1 rfl ⟨_,kd1⟩ (by decide) (fun w b28 F28=>?_);have oa1:=F28.lq hb.size;have hb:=G0 hb F28.below;have hR:=hR.j0 F28.below;have hO:=hO.j0 F28.below;have Qf0:=F28.blk;refine L.S9 (B:=w0.heap.size) (m:=1) rfl rfl underlying53 ke1 rfl (by decide) hO (fun h=>by cases h) (news:=ch1) rfl (fun ad had j u hj=>by
   cases had;rw[Addr.add_lit]
   match j,hj with
   |0,hj=>cases hj;exact Qf0.q0 0 rfl
   |1,hj=>cases hj;exact Qf0.q0 1 rfl
   |2,hj=>cases hj;exact Qf0.q0 2 rfl
   |3,hj=>cases hj;exact Qf0.q0 3 rfl
   |4,hj=>cases hj;exact Qf0.q0 4 rfl) (fun u hu=>by simp only[List.mem_cons,List.not_mem_nil,or_false]at hu;rcases hu with rfl|rfl|rfl|rfl|rfl <;> rfl) (by omega) (by omega) hb.size (fun a2 c2 w2 hO2 hg2 A1 _=>?_)
  have hmo:H4 w w2 w0.heap.size [52]:=H4.app hO hg2 A1 rfl hO2;have hb:=hb.trans A1;have hR:=hR.mod hmo rfl;clear hmo hg2 A1 hO
  rename World=>w
  have hO:=hO2;clear hO2;refine L.va (W0 rfl) ?_;refine L.va (E0 rfl underlying56 rfl Yf0 (by decide)) ?_;refine L.pu 1 [.slice a2 (i+1) c2] #[.int .i64 obj,.slice a2 (i+1) c2,.slice none 0 0] Yf0 hR (fun w E1 hg I2=>?_);have I5:=H4.dq0 hR hg;have hb:=L5 hb hb.size hg Dq0;have hO:=hO.mod I5 rfl;have hR:=E1;clear I5;refine U231 ?_;exact⟨_,by omega,⟨i+1,a2,c2,rfl,rfl,rfl,rfl,rfl,N1,hb,hR,(by rw[Ek0];exact hO)⟩⟩
 ·obtain rfl:n=i:=by omega
  refine W.exit ?_;refine U85 ?_;refine U25 ?_;refine U17 ?_;refine U119 ?_;exact⟨b16,a,c,rfl,Dq0,hR,hO,hb⟩
end
theorem Un0 {lb:Nat} {pl:Nat->E6} {obj n:Int} (hn:n<1) (w0:World):@C prog (r6 lb pl) 4 #[.int .i64 obj,.int .i64 n] w0 fun v w=>v= .bool true/\Below w0.heap.size w0 w:=by
 letI:Ctx prog:=r6 lb pl;refine C.enter (n:=65) func4 rfl rfl ?_;refine U0 ?_;intro hb;refine U7 ?_;refine U292 ?_;rintro _ w ⟨wb,rfl,hwb,hW,B2⟩;refine U223 ?_;intro hwb hb;refine U311 ?_;refine L.call (c5 rfl rfl rfl func12 rfl Rl0 rfl) (Om0 wb obj n hn _ hW) ?_;rintro _ w ⟨rfl,B2⟩;have hb:=G0 hb B2;refine U102 ?_;refine U94 ?_;refine L.call (X1 rfl rfl func14 rfl Yj0 rfl) (Ul0 obj n hn _) ?_;rintro _ w ⟨rfl,B2⟩;have hb:=G0 hb B2;refine U102 ?_;refine U184 ?_;rintro _ w1 ⟨rfl,hw⟩;refine U41 ?_;refine U459 ?_;refine U286 ?_;refine U226 ?_;refine U299 ?_;refine U289 ?_;refine U298 ?_;rintro _ w ⟨rfl,B2⟩;have hb:=G0 hb B2;refine U316 ?_;refine U47 ?_;refine U57 ?_;refine U42 ?_;exact U103
theorem Uo0 {lb:Nat} {pl:Nat->E6} {obj n:Int} (hn:64<n) (w0:World):@C prog (r6 lb pl) 4 #[.int .i64 obj,.int .i64 n] w0 fun v w=>v= .bool true/\Below w0.heap.size w0 w:=by
 letI:Ctx prog:=r6 lb pl;refine C.enter (n:=65) func4 rfl rfl ?_;refine U0 ?_;intro hb;refine U7 ?_;refine U292 ?_;rintro _ w ⟨wb,rfl,hwb,hW,B2⟩;refine U223 ?_;intro hwb hb;refine U311 ?_;refine L.call (c5 rfl rfl rfl func12 rfl Rl0 rfl) (On0 wb obj n hn _ hW) ?_;rintro _ w ⟨rfl,B2⟩;have hb:=G0 hb B2;refine U102 ?_;refine U94 ?_;refine L.call (X1 rfl rfl func14 rfl Yj0 rfl) (Um0 obj n hn _) ?_;rintro _ w ⟨rfl,B2⟩;have hb:=G0 hb B2;refine U102 ?_;refine U184 ?_;rintro _ w1 ⟨rfl,hw⟩;refine U41 ?_;refine U459 ?_;refine U286 ?_;refine U226 ?_;refine U299 ?_;refine U289 ?_;refine U298 ?_;rintro _ w ⟨rfl,B2⟩;have hb:=G0 hb B2;refine U316 ?_;refine U47 ?_;refine U57 ?_;refine U42 ?_;exact U103
theorem Up0 {lb:Nat} {pl:Nat->E6} {obj:Int} {n:Nat} (hn0:0<n) (h64:n <=64) (w0:World):@C prog (r6 lb pl) 4 #[.int .i64 obj,.int .i64 (n:Int)] w0 fun v w=>v= .bool true/\Below w0.heap.size w0 w:=by
 letI:Ctx prog:=r6 lb pl;refine C.enter (n:=65) func4 rfl rfl ?_;have hb:Below w0.heap.size w0 w0:=Below.refl _ _;have At0:(n:Int)-1=((n-1:Nat):Int):=by omega
 refine U143 ?_;refine U292 ?_;rintro _ w ⟨wb,rfl,hwb,hW,B2⟩;refine U223 ?_;intro hwb hb;refine U311 ?_;refine L.call (c5 rfl rfl rfl func12 rfl Rl0 rfl) (Fy0 wb obj n hn0 h64 _ hW) ?_;rintro _ w ⟨tb,rw_,ls,cl,bk,rfl,htl,hT,hL,hQ,B2⟩;refine U470 ?_;intro hb hW;refine U102 ?_;refine U94 ?_;refine L.call (X1 rfl rfl func14 rfl Yj0 rfl) (ci1 obj n hn0 h64 _) ?_;rintro _ w ⟨rt,ra,rc,rfl,hrl,hRt,hRo,B2⟩;refine U108 ?_;intro hb hW hT hQ;refine U102 ?_;refine U184 ?_;rintro _ w1 ⟨rfl,hw⟩;refine U41 ?_;refine L.va (V3 rfl) ?_;refine U480 ?_;refine U226 ?_;refine U299 ?_;refine U289 ?_;refine U298 ?_;rintro _ w ⟨rfl,B2⟩;refine U108 ?_;intro hb hW hT hQ;refine U316 ?_;refine U47 ?_;refine U57 ?_;refine U44 ?_;refine U25 ?_;refine L.call (K2 rfl func16 rfl em1 rfl) (wb0 tb wb obj (IntKind.i64.wrap (obj+1)) n rw_ cl _ _ _ _ _ h64 _ hT (k7.new hQ) hW (fun j _=>Nat.zero_le _)) ?_;rintro _ w ⟨rfl,B2⟩;refine U108 ?_;intro hb hW hT hQ;clear B2;rw[no1];refine L.va (O5 (r:=true) (by decide) (bw0 (m:=0) (k:=0) rfl rfl)) ?_;refine U18 ?_;refine L.call (X1 rfl rfl func17 rfl Kx0 rfl) (po0 tb wb obj (IntKind.i64.wrap (obj+1)) n rw_ cl _ _ _ _ _ h64 _ hT (k7.new hQ) hW 0 hn0) ?_;rintro _ w ⟨rfl,B2⟩;refine U108 ?_;intro hb hW hT hQ;refine U227 ?_;refine U18 ?_;refine U64 ?_;refine L.va (At0▸Ca0 (m:=(n:Int)) (k:=1) rfl rfl (by omega)) ?_;refine L.on rfl ?_;refine L.call (X1 rfl rfl func17 rfl Kx0 rfl) (po0 tb wb obj (IntKind.i64.wrap (obj+1)) n rw_ cl _ _ _ _ _ h64 _ hT (k7.new hQ) hW (n-1) (by omega)) ?_;rintro _ w ⟨rfl,B2⟩;refine U108 ?_;intro hb hW hT hQ;refine U227 ?_;refine U18 ?_;refine L.call (X1 rfl rfl func17 rfl Kx0 rfl) (Hw0 tb wb obj (IntKind.i64.wrap (obj+1)) n rw_ cl _ _ _ _ _ h64 _ hT (k7.new hQ) hW (-1) (by omega)) ?_;rintro _ w ⟨rfl,B2⟩;refine U108 ?_;intro hb hW hT hQ;refine U222 ?_;refine U18 ?_;refine U64 ?_;refine L.call (X1 rfl rfl func17 rfl Kx0 rfl) (Oo0 tb wb obj (IntKind.i64.wrap (obj+1)) n rw_ cl _ _ _ _ _ h64 _ hT (k7.new hQ) hW (n:Int) (Int.le_refl _)) ?_;rintro _ w ⟨rfl,B2⟩;have hb:=G0 hb B2;refine U222 ?_;exact U103
theorem np1 {lb:Nat} {pl:Nat->E6} {obj n:Int} (w0:World):@C prog (r6 lb pl) 4 #[.int .i64 obj,.int .i64 n] w0 fun v w=>v= .bool true/\Below w0.heap.size w0 w:=by
 rcases Int.lt_or_le n 1 with h|h
 ·exact Un0 h w0
 rcases Int.lt_or_le 64 n with h2|h2
 ·exact Uo0 h2 w0
 obtain⟨k,rfl⟩:∃k:Nat,n=(k:Int):=⟨n.toNat,by omega⟩
 exact Up0 (by omega) (by omega) w0
end Go.Vy.Sc
end
