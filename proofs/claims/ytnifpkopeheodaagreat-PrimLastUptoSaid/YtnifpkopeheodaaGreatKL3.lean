/- What the claim leans on, part 3. Laws. -/
import Derived.Test.YtnifpkopeheodaaGreatKL2
import Derived.Test.YtnifpkopeheodaaGreatRows
import Derived.KernelRfl
import Derived.Conc.SmallLaws
set_option linter.unusedVariables false
section
namespace Go.Proofs.YtnifpkopeheodaaGreat
theorem sz1:(Tryz.prog.info? 1).map (·.size)=some 1:=by kernel_rfl
theorem zr1:(Tryz.prog.info? 1).bind (·.zero)=some (.nilFunc):=by kernel_rfl
theorem sz2:(Tryz.prog.info? 2).map (·.size)=some 1:=by kernel_rfl
theorem zr2:(Tryz.prog.info? 2).bind (·.zero)=some (.int .i64 0):=by kernel_rfl
theorem in2:(Tryz.prog.info? 2).map (fun i=>(i.zero,i.size,i.bytes))=some (some (.int .i64 0),1,8):=by kernel_rfl
theorem sz3:(Tryz.prog.info? 3).map (·.size)=some 1:=by kernel_rfl
theorem zr3:(Tryz.prog.info? 3).bind (·.zero)=some (.int .i64 0):=by kernel_rfl
theorem in3:(Tryz.prog.info? 3).map (fun i=>(i.zero,i.size,i.bytes))=some (some (.int .i64 0),1,8):=by kernel_rfl
theorem sz4:(Tryz.prog.info? 4).map (·.size)=some 1:=by kernel_rfl
theorem zr4:(Tryz.prog.info? 4).bind (·.zero)=some (.bool false):=by kernel_rfl
theorem Fo0:(Tryz.prog.info? 23).map (·.size)=some 1:=by kernel_rfl
theorem Qn0:(Tryz.prog.info? 25).map (·.size)=some 1:=by kernel_rfl
theorem Fp0:(Tryz.prog.info? 26).map (·.size)=some 1:=by kernel_rfl
theorem Qo0:(Tryz.prog.info? 28).map (·.size)=some 1:=by kernel_rfl
theorem if0:(Tryz.prog.info? 30).map (·.size)=some 6:=by kernel_rfl
theorem Fq0:(Tryz.prog.info? 30).bind (·.zero)=some (.agg #[.slice none 0 0,.slice none 0 0,.slice none 0 0,.slice none 0 0,.bool false,.int .i64 0]):=by kernel_rfl
theorem bb1:(Tryz.prog.info? 31).map (·.size)=some 1:=by kernel_rfl
theorem bc1:(Tryz.prog.info? 31).bind (·.zero)=some (.slice none 0 0):=by kernel_rfl
theorem Bz0:(Tryz.prog.info? 37).map (·.size)=some 2:=by kernel_rfl
theorem bd1:(Tryz.prog.info? 38).bind (·.zero)=some (.agg (Array.replicate 12 (.int .i64 0))):=by kernel_rfl
theorem Fr0:(Tryz.prog.info? 45).map (·.size)=some 1:=by kernel_rfl
theorem be1:(Tryz.prog.info? 45).map (fun i=>(i.zero,i.size,i.bytes))=some (some (.slice none 0 0),1,24):=by kernel_rfl
theorem tt0:(Tryz.prog.info? 47).map (·.size)=some 3:=by kernel_rfl
theorem bf1:(Tryz.prog.info? 47).map (fun i=>(i.zero,i.size,i.bytes))=some (some (.agg #[.int .i64 0,.int .i64 0,.int .i64 0]),3,24):=by kernel_rfl
theorem La0:(Tryz.prog.info? 49).map (·.size)=some 4:=by kernel_rfl
theorem bg1:(Tryz.prog.info? 49).bind (·.zero)=some (.agg #[.int .i64 0,.int .i64 0,.int .i64 0,.int .i64 0]):=by kernel_rfl
theorem bh1:(Tryz.prog.info? 49).map (fun i=>(i.zero,i.size,i.bytes))=some (some (.agg #[.int .i64 0,.int .i64 0,.int .i64 0,.int .i64 0]),4,32):=by kernel_rfl
theorem Ca0:(Tryz.prog.info? 50).map (·.size)=some 1:=by kernel_rfl
theorem Vn0:(Tryz.prog.info? 50).bind (·.zero)=some (.slice none 0 0):=by kernel_rfl
theorem R5:(Tryz.prog.info? 52).map (·.size)=some 4:=by kernel_rfl
theorem Vo0:(Tryz.prog.info? 52).bind (·.zero)=some (.agg #[.int .i64 0,.int .i64 0,.int .i64 0,.int .i64 0]):=by kernel_rfl
theorem bi1:(Tryz.prog.info? 54).map (·.size)=some 1:=by kernel_rfl
theorem bj1:(Tryz.prog.info? 54).bind (·.zero)=some (.pointer none):=by kernel_rfl
theorem Fs0:(Tryz.prog.info? 56).map (·.size)=some 1:=by kernel_rfl
theorem Cb0:(Tryz.prog.info? 61).map (·.size)=some 1:=by kernel_rfl
theorem Vp0:(Tryz.prog.info? 62).map (·.size)=some 2:=by kernel_rfl
theorem vu0:(Tryz.prog.info? 63).map (·.size)=some 1:=by kernel_rfl
theorem Vq0:(Tryz.prog.info? 64).map (·.size)=some 2:=by kernel_rfl
theorem Cc0:(Tryz.prog.info? 65).map (·.size)=some 1:=by kernel_rfl
theorem Qp0:(Tryz.prog.info? 66).map (·.size)=some 2:=by kernel_rfl
theorem Cd0:(Tryz.prog.info? 67).map (·.size)=some 1:=by kernel_rfl
theorem Qq0:(Tryz.prog.info? 68).map (·.size)=some 2:=by kernel_rfl
theorem Ce0:(Tryz.prog.info? 69).map (·.size)=some 1:=by kernel_rfl
theorem Qr0:(Tryz.prog.info? 70).map (·.size)=some 2:=by kernel_rfl
theorem Vr0:(Tryz.prog.info? 73).map (·.size)=some 1:=by kernel_rfl
theorem bk1:(Tryz.prog.info? 73).bind (·.zero)=some (.nilFunc):=by kernel_rfl
theorem bl1:(Tryz.prog.info? 73).map (fun i=>(i.zero,i.size,i.bytes))=some (some (.nilFunc),1,8):=by kernel_rfl
theorem bm1:(Tryz.prog.info? 86).map (·.size)=some 1:=by kernel_rfl
theorem bn1:(Tryz.prog.info? 86).bind (·.zero)=some (.pointer none):=by kernel_rfl
theorem Ft0:(Tryz.prog.info? 91).map (·.size)=some 1:=by kernel_rfl
theorem Vs0:(Tryz.prog.info? 91).bind (·.zero)=some (.pointer none):=by kernel_rfl
theorem Qs0:(Tryz.prog.info? 91).map (fun i=>(i.zero,i.size,i.bytes))=some (some (.pointer none),1,8):=by kernel_rfl
theorem ji0:(Tryz.prog.info? 107).map (·.size)=some 2:=by kernel_rfl
theorem Nz0:(Tryz.prog.info? 111).map (·.size)=some 1:=by kernel_rfl
theorem Vt0:(Tryz.prog.info? 121).map (·.size)=some 1:=by kernel_rfl
theorem Vu0:(Tryz.prog.info? 128).map (·.size)=some 1:=by kernel_rfl
theorem Vv0:(Tryz.prog.info? 130).map (·.size)=some 1:=by kernel_rfl
theorem lm0:(Tryz.prog.info? 136).map (·.size)=some 1:=by kernel_rfl
theorem ln0:(Tryz.prog.info? 138).map (·.size)=some 1:=by kernel_rfl
theorem Fu0:(Tryz.prog.info? 139).map (·.size)=some 1:=by kernel_rfl
theorem Oa0:(Tryz.prog.info? 141).map (·.size)=some 2:=by kernel_rfl
theorem Vw0:(Tryz.prog.info? 141).bind (·.zero)=some (.agg #[.int .u64 0,.int .u32 0]):=by kernel_rfl
theorem Fv0:(Tryz.prog.info? 146).map (·.size)=some 1:=by kernel_rfl
theorem Ob0:(Tryz.prog.info? 147).map (·.size)=some 1:=by kernel_rfl
theorem Oc0:(Tryz.prog.info? 150).map (·.size)=some 1:=by kernel_rfl
theorem Fw0:(Tryz.prog.info? 151).map (·.size)=some 1:=by kernel_rfl
theorem nm9:(Tryz.f9.name== "runtime.NumGoroutine")=false:=by kernel_rfl
theorem Vx0:(Tryz.f10.name== "runtime.NumGoroutine")=false:=by kernel_rfl
theorem Vy0:(Tryz.f11.name== "runtime.NumGoroutine")=false:=by kernel_rfl
theorem cp0:(Tryz.f15.name== "runtime.NumGoroutine")=false:=by kernel_rfl
theorem bo1:(Tryz.f16.name== "runtime.NumGoroutine")=false:=by kernel_rfl
theorem Vz0:(Tryz.f17.name== "runtime.NumGoroutine")=false:=by kernel_rfl
theorem bp1:(Tryz.f20.name== "runtime.NumGoroutine")=false:=by kernel_rfl
theorem bq1:(Tryz.f21.name== "runtime.NumGoroutine")=false:=by kernel_rfl
theorem br1:(Tryz.f22.name== "runtime.NumGoroutine")=false:=by kernel_rfl
theorem bs1:(Tryz.f23.name== "runtime.NumGoroutine")=false:=by kernel_rfl
theorem bt1:(Tryz.f24.name== "runtime.NumGoroutine")=false:=by kernel_rfl
theorem bu1:(Tryz.f25.name== "runtime.NumGoroutine")=false:=by kernel_rfl
theorem bv1:(Tryz.f26.name== "runtime.NumGoroutine")=false:=by kernel_rfl
theorem bw1:(Tryz.f27.name== "runtime.NumGoroutine")=false:=by kernel_rfl
theorem bx1:(Tryz.f28.name== "runtime.NumGoroutine")=false:=by kernel_rfl
theorem by1:(Tryz.f29.name== "runtime.NumGoroutine")=false:=by kernel_rfl
theorem bz1:(Tryz.f30.name== "runtime.NumGoroutine")=false:=by kernel_rfl
theorem ca1:(Tryz.f33.name== "runtime.NumGoroutine")=false:=by kernel_rfl
theorem cb1:(Tryz.f34.name== "runtime.NumGoroutine")=false:=by kernel_rfl
theorem Wa0:(Tryz.f36.name== "runtime.NumGoroutine")=false:=by kernel_rfl
theorem cc1:(Tryz.f37.name== "runtime.NumGoroutine")=false:=by kernel_rfl
theorem cd1:(Tryz.f39.name== "runtime.NumGoroutine")=false:=by kernel_rfl
theorem ce1:(Tryz.f41.name== "runtime.NumGoroutine")=false:=by kernel_rfl
theorem cg1:(Tryz.f42.name== "runtime.NumGoroutine")=false:=by kernel_rfl
theorem ch1:(Tryz.f43.name== "runtime.NumGoroutine")=false:=by kernel_rfl
theorem xw0:(Tryz.f44.name== "runtime.NumGoroutine")=false:=by kernel_rfl
theorem ci1:(Tryz.f45.name== "runtime.NumGoroutine")=false:=by kernel_rfl
theorem cj1:(Tryz.f46.name== "runtime.NumGoroutine")=false:=by kernel_rfl
theorem ck1:(Tryz.f47.name== "runtime.NumGoroutine")=false:=by kernel_rfl
theorem cl1:(Tryz.f48.name== "runtime.NumGoroutine")=false:=by kernel_rfl
theorem cm1:(Tryz.f49.name== "runtime.NumGoroutine")=false:=by kernel_rfl
theorem Wb0:(Tryz.f51.name== "runtime.NumGoroutine")=false:=by kernel_rfl
theorem Wc0:(Tryz.f52.name== "runtime.NumGoroutine")=false:=by kernel_rfl
theorem Wd0:(Tryz.f53.name== "runtime.NumGoroutine")=false:=by kernel_rfl
theorem We0:(Tryz.f54.name== "runtime.NumGoroutine")=false:=by kernel_rfl
theorem Wf0:(Tryz.f55.name== "runtime.NumGoroutine")=false:=by kernel_rfl
theorem oa0:(Tryz.f56.name== "runtime.NumGoroutine")=false:=by kernel_rfl
theorem Wg0:(Tryz.f57.name== "runtime.NumGoroutine")=false:=by kernel_rfl
theorem Wh0:(Tryz.f58.name== "runtime.NumGoroutine")=false:=by kernel_rfl
theorem Wi0:(Tryz.f60.name== "runtime.NumGoroutine")=false:=by kernel_rfl
theorem cn1:(Tryz.f61.name== "runtime.NumGoroutine")=false:=by kernel_rfl
theorem Wj0:(Tryz.f62.name== "runtime.NumGoroutine")=false:=by kernel_rfl
theorem Wk0:(Tryz.f64.name== "runtime.NumGoroutine")=false:=by kernel_rfl
theorem Lb0:(Tryz.f66.name== "runtime.NumGoroutine")=false:=by kernel_rfl
theorem co1:(Tryz.f67.name== "runtime.NumGoroutine")=false:=by kernel_rfl
theorem Wl0:(Tryz.f68.name== "runtime.NumGoroutine")=false:=by kernel_rfl
theorem cp1:(Tryz.f69.name== "runtime.NumGoroutine")=false:=by kernel_rfl
theorem Wm0:(Tryz.f70.name== "runtime.NumGoroutine")=false:=by kernel_rfl
theorem Wn0:(Tryz.f72.name== "runtime.NumGoroutine")=false:=by kernel_rfl
theorem cq1:(Tryz.f76.name== "runtime.NumGoroutine")=false:=by kernel_rfl
theorem Wo0:(Tryz.f77.name== "runtime.NumGoroutine")=false:=by kernel_rfl
theorem cr1:(Tryz.f78.name== "runtime.NumGoroutine")=false:=by kernel_rfl
theorem ct1:(Tryz.f79.name== "runtime.NumGoroutine")=false:=by kernel_rfl
theorem cu1:(Tryz.f80.name== "runtime.NumGoroutine")=false:=by kernel_rfl
theorem cv1:(Tryz.f81.name== "runtime.NumGoroutine")=false:=by kernel_rfl
theorem cw1:(Tryz.f82.name== "runtime.NumGoroutine")=false:=by kernel_rfl
theorem cx1:(Tryz.f83.name== "runtime.NumGoroutine")=false:=by kernel_rfl
theorem cy1:(Tryz.f85.name== "runtime.NumGoroutine")=false:=by kernel_rfl
theorem Wp0:(Tryz.f87.name== "runtime.NumGoroutine")=false:=by kernel_rfl
theorem Qt0:(Tryz.f88.name== "runtime.NumGoroutine")=false:=by kernel_rfl
theorem jv0:(Tryz.f89.name== "runtime.NumGoroutine")=false:=by kernel_rfl
theorem Wq0:(Tryz.f90.name== "runtime.NumGoroutine")=false:=by kernel_rfl
theorem Wr0:(Tryz.f94.name== "runtime.NumGoroutine")=false:=by kernel_rfl
theorem cz1:(Tryz.f95.name== "runtime.NumGoroutine")=false:=by kernel_rfl
theorem Lc0:(Tryz.f96.name== "runtime.NumGoroutine")=false:=by kernel_rfl
theorem da1:(Tryz.f97.name== "runtime.NumGoroutine")=false:=by kernel_rfl
theorem db1:(Tryz.f99.name== "runtime.NumGoroutine")=false:=by kernel_rfl
theorem Od0:(Tryz.f100.name== "runtime.NumGoroutine")=false:=by kernel_rfl
theorem Ws0:(Tryz.f102.name== "runtime.NumGoroutine")=false:=by kernel_rfl
theorem Wt0:(Tryz.f103.name== "runtime.NumGoroutine")=false:=by kernel_rfl
theorem Wu0:(Tryz.f104.name== "runtime.NumGoroutine")=false:=by kernel_rfl
theorem Wv0:(Tryz.f106.name== "runtime.NumGoroutine")=false:=by kernel_rfl
theorem Ww0:(Tryz.f107.name== "runtime.NumGoroutine")=false:=by kernel_rfl
theorem Fx0:(Tryz.f109.name== "runtime.NumGoroutine")=false:=by kernel_rfl
theorem vv0:(Tryz.f110.name== "runtime.NumGoroutine")=false:=by kernel_rfl
theorem Wx0:(Tryz.f111.name== "runtime.NumGoroutine")=false:=by kernel_rfl
theorem Oe0:(Tryz.f112.name== "runtime.NumGoroutine")=false:=by kernel_rfl
theorem Wy0:(Tryz.f113.name== "runtime.NumGoroutine")=false:=by kernel_rfl
theorem Of0:(Tryz.f162.name== "runtime.NumGoroutine")=false:=by kernel_rfl
theorem Wz0:(Tryz.f163.name== "runtime.NumGoroutine")=false:=by kernel_rfl
theorem Xa0:(Tryz.f164.name== "runtime.NumGoroutine")=false:=by kernel_rfl
theorem Og0:(Tryz.f165.name== "runtime.NumGoroutine")=false:=by kernel_rfl
theorem Xb0:(Tryz.f166.name== "runtime.NumGoroutine")=false:=by kernel_rfl
theorem Oh0:(Tryz.f167.name== "runtime.NumGoroutine")=false:=by kernel_rfl
theorem Xc0:(Tryz.f168.name== "runtime.NumGoroutine")=false:=by kernel_rfl
theorem Oi0:(Tryz.f169.name== "runtime.NumGoroutine")=false:=by kernel_rfl
theorem Oj0:(Tryz.f170.name== "runtime.NumGoroutine")=false:=by kernel_rfl
theorem Ol0:(Tryz.f171.name== "runtime.NumGoroutine")=false:=by kernel_rfl
end Go.Proofs.YtnifpkopeheodaaGreat
end
section
namespace Go.Proofs.YtnifpkopeheodaaGreat
open Go.Conc Go.Yc Go.Wg
open Go.Vc (Env upd k3 ev m4 Y2)
section
attribute [local irreducible] KK
theorem dn0 (d:Nat):deafBehind d #[(⟨.mark .disable,false,true⟩:Event)]=d+1:=rfl
theorem w6 (d:Nat):deafBehind (d+1) #[(⟨.mark .enable,false,true⟩:Event)]=d:=rfl
theorem v8 (d:Nat) {m:Mark} (h:(match m with| .disable| .enable=>false|_=>true)=true):deafBehind d #[(⟨.mark m,false,true⟩:Event)]=d:=by cases m <;> first|rfl|cases h
theorem add1 (v:Nat) (h:v<2147483648):IntKind.u64.wrap (((v*4294967296+0:Nat):Int)+1)=((v*4294967296+1:Nat):Int):=by rw[IntKind.wrap_u64];omega
theorem Xd0:Extern.find Tryz.f87=some (Extern.Race.marked .releaseMerge):=by kernel_rfl
theorem dc1:Extern.find Tryz.f95=some (Extern.Race.marked .read):=by kernel_rfl
theorem Xe0:Extern.find Tryz.f103=some (Extern.Race.marked .write):=by kernel_rfl
theorem Om0:Extern.find Tryz.f100=some (Extern.Race.marked .acquire):=by kernel_rfl
theorem Qu0:Extern.find Tryz.f88=some (fun _=>do mark .disable;pure Extern.Race.none_):=by kernel_rfl
theorem jw0:Extern.find Tryz.f89=some (fun _=>do mark .enable;pure Extern.Race.none_):=by kernel_rfl
theorem Xf0:Extern.find Tryz.f90=some (fun _=>pure (.bool false)):=by kernel_rfl
theorem Fy0:Extern.find Tryz.f109=some (Extern.Atomic.update (Op.intArith .add) .u64 true):=by kernel_rfl
theorem vw0:Extern.find Tryz.f110=some (Extern.Atomic.loadT (.int .u64)):=by kernel_rfl
theorem Xg0:Extern.find Tryz.f111=some Extern.Atomic.storeT:=by kernel_rfl
theorem On0:Extern.find Tryz.f112=some (Extern.Atomic.casT (.int .u64)):=by kernel_rfl
theorem dd1:Extern.find Tryz.f99=some Extern.Sync.semrelease:=by kernel_rfl
theorem Xh0:Extern.find Tryz.f104=some Extern.Sync.semacquire:=by kernel_rfl
theorem Oo0:(Tryz.prog.info? 139).map (fun i=>decide (i.size=0))=some false:=by kernel_rfl
theorem Ai0:(Tryz.prog.info? 141).map (fun i=>decide (i.size=0))=some false:=by kernel_rfl
set_option maxRecDepth 20000 in
theorem Ld0 (gr:N4) {c:Frame} {cs:List Frame} (hcm:c.mode= .returning) {N:Nat} (hT:QuitsD Tryz.prog N 0 (Conc.G c cs)):∃n,Lt Tryz.prog gr n 0 (Conc.G ((baseD 68).at {tmps:=#[.pointer (some ⟨gr.blk,gr.off,none⟩)]++Array.replicate (Tryz.f68.ntmps-1) undef,defers:=[]} [.code (Tryz.f68.body.getD .skip)]) (c::cs)):=by
 refine⟨N+500,(?_:At (fun m d g=>Lt Tryz.prog gr m d g) (N+500) 4 (baseD 68) (c::cs) [] 0 (Wg.J7 #[.pointer (some ⟨gr.blk,gr.off,none⟩)]) [.code (Tryz.f68.body.getD .skip)]) _ (D7 _ _ rfl)⟩;refine At.region (A3 _ gr) ?_;refine G0.val (A3 _ gr) (bkd _) rfl (v:=.pointer (some ⟨gr.blk,gr.off,none⟩)) (I0 rfl) ?_;refine G0.call (A3 _ gr) (bkd _) [.pointer (some ⟨gr.blk,gr.off,none⟩),.i (-1)] 117 rfl Tryz.func66 Lb0 rfl rfl rfl (fun cs1 E5=>?_);refine At.seq (A3 _ gr) ?_;refine At.J4 (A3 _ gr) rfl ?_;refine U271 ?_;refine G0.val (A3 _ gr) (Y0 _) rfl (v:=.i (-1)) (I0 rfl) ?_;refine G0.val (A3 _ gr) (Y0 _) rfl (v:=.bool true) (ar0 (r:=true) rfl rfl (by decide)) ?_;refine G0.nil (A3 _ gr) ?_;refine At.J4 (A3 _ gr) rfl ?_;refine At.region (A3 _ gr) ?_;refine G0.val (A3 _ gr) (Y0 _) rfl (v:=.pointer (some ⟨gr.blk,gr.off,none⟩)) (I0 rfl) ?_;refine G0.toUnsafe (Vi0 _ gr) (Y0 _) rfl rfl (.inl rfl) Tryz.underlying165 Tryz.underlying128 Ai0 ?_;refine G0.tp0 (A3 _ gr) (Y0 _) .releaseMerge (by simp) rfl rfl Tryz.func87 Wp0 rfl rfl Xd0 rfl ?_;rw[v8 _ rfl];refine U437 ?_;simp only[dn0];refine G0.nil (A3 _ gr) ?_;refine U509 ?_;refine U163 ?_;refine U447 ?_;refine U271 ?_;refine U407 ?_;refine U539 ?_;refine U95 ?_;refine U361 ?_;refine G0.val (A3 _ gr) (Y0 _) rfl (v:=.i (-1)) (I0 rfl) ?_;refine U313 ?_;refine U404 ?_;intro cs2 hb2;refine U494 ?_;refine U201 ?_;refine U321 ?_;refine G0.Nx0 (Y0 _) rfl Tryz.func109 Fx0 rfl rfl Fy0 rfl rfl (fun v wt hwt hv B3=>?_) ?_
 ·by_cases hv0:0<v
  ·have hwc:wt=0\/wt=1:=by omega
   rcases hwc with rfl|rfl
   ·refine G0.val (j0 _) (Y0 _) rfl (v:=.int .u64 (((v*4294967296+0:Nat):Int))) (Q0 rfl) ?_;refine G0.nil (j0 _) ?_;refine At.ret (j0 _) (fun _=>?_);refine U336 ?_;refine U24 ?_;refine U329 ?_;refine U85 ?_;refine U142 ?_;refine U374 ?_;refine G0.nil (j0 _) ?_;refine U142 ?_;refine U392 ?_;refine U24 ?_;refine U136 ?_;refine U189 ?_;refine U192 ?_;refine U252 ?_;refine U190 ?_;refine At.ret (j0 _) (fun _=>?_);refine AtR.mark (j0 _) .enable (by simp) rfl Tryz.func89 jv0 rfl rfl jw0 ?_;simp only[w6];refine U32 ?_;refine At.done (j0 _) (fun _=>?_);exact U31
   ·refine G0.val (j0 _) (Y0 _) rfl (v:=.int .u64 (((v*4294967296+1:Nat):Int))) (Q0 rfl) ?_;refine G0.nil (j0 _) ?_;refine At.ret (j0 _) (fun _=>?_);refine U337 ?_;refine U24 ?_;refine U330 ?_;refine U85 ?_;refine U143 ?_;refine U373 ?_;refine G0.nil (j0 _) ?_;refine U143 ?_;refine U324 ?_;refine U473 ?_;refine U136 ?_;refine U189 ?_;refine U29 ?_;refine U366 ?_;refine U136 ?_;refine U261 ?_;refine U190 ?_;refine At.ret (j0 _) (fun _=>?_);refine AtR.mark (j0 _) .enable (by simp) rfl Tryz.func89 jv0 rfl rfl jw0 ?_;simp only[w6];refine U32 ?_;refine At.done (j0 _) (fun _=>?_);exact U31
  ·obtain rfl:v=0:=by omega
   obtain rfl:wt=0:=by omega
   refine U206 ?_;refine At.ret (j0 _) (fun _=>?_);refine U412 ?_;refine U29 ?_;refine U331 ?_;refine U85 ?_;refine U144 ?_;refine U312 ?_;refine U405 ?_;refine U144 ?_;refine U394 ?_;refine U24 ?_;refine U136 ?_;refine U197 ?_;refine U195 ?_;refine U419 ?_;refine U192 ?_;refine U195 ?_;refine U367 ?_;refine U358 ?_;refine U428 ?_;refine At.J4 (j0 _) rfl ?_;refine At.ret (j0 _) (fun _=>?_);refine AtR.mark (j0 _) .enable (by simp) rfl Tryz.func89 jv0 rfl rfl jw0 ?_;simp only[w6];refine U32 ?_;refine At.done (j0 _) (fun _=>?_);exact U31
 ·refine G0.val (P0 _ gr 2) (Y0 _) rfl (v:=.int .u64 (((0*4294967296+1:Nat):Int))) (Q0 rfl) ?_;refine G0.nil (P0 _ gr 2) ?_;refine At.ret (P0 _ gr 2) (fun _=>?_);refine U333 ?_;refine U535 ?_;refine U73 ?_;refine U332 ?_;refine U74 ?_;refine U37 ?_;refine U73 ?_;refine U310 ?_;refine U402 ?_;refine U73 ?_;refine U322 ?_;refine U421 ?_;refine U44 ?_;refine U378 ?_;refine U129 ?_;refine U74 ?_;refine U94 ?_;refine U37 ?_;refine U146 ?_;refine U387 ?_;refine U202 ?_;refine U44 ?_;refine U362 ?_;refine U378 ?_;refine U129 ?_;refine U74 ?_;refine U94 ?_;refine U37 ?_;refine U146 ?_;refine U360 ?_;refine U357 ?_;refine U37 ?_;refine U44 ?_;refine U127 ?_;refine U323 ?_;intro cs3 hb3;refine U69 ?_;refine U422 ?_;refine U69 ?_;refine U127 ?_;refine U326 ?_;refine U423 ?_;refine At.ret (P0 _ gr 1) (fun _=>?_);refine U476 ?_;refine U525 ?_;refine U536 ?_;refine U165 ?_;refine U320 ?_;intro cs4 hb4;refine U165 ?_;refine U325 ?_;refine U432 ?_;refine At.done (P0 _ gr 0) (fun _=>?_);refine U459 ?_;refine U168 ?_;refine U429 ?_;refine U526 ?_;refine U532 ?_;refine U168 ?_;refine U363 ?_;refine U527 ?_;refine At.skip (P0 _ gr 0) ?_;refine U534 ?_;refine U383 ?_;refine U316 ?_;refine U454 ?_;refine At.inBlock (j0 _) ?_;refine U439 ?_;refine U368 ?_;refine U540 ?_;refine U207 ?_;refine U425 ?_;refine At.exit (j0 _) rfl ?_;refine At.done (j0 _) (fun _=>?_);refine AtR.mark (j0 _) .enable (by simp) rfl Tryz.func89 jv0 rfl rfl jw0 ?_;simp only[w6];refine U32 ?_;refine At.done (j0 _) (fun _=>?_);exact U31
set_option maxRecDepth 20000 in
theorem Op0 (gr:N4) (K:Goroutine->Prop) {c:Frame} {cs:List Frame} (hK:K (Conc.G (c.finish (.tuple #[])) cs)):Do0 Tryz.prog gr K 500 0 (Conc.G (Frame.enter Tryz.prog 66 #[.pointer (some ⟨gr.blk,gr.off,none⟩),.i 1] .normal) (c::cs)):=by
 rw[enter_at _ Tryz.func66 rfl];refine(?_:At (Fi0 Tryz.prog gr K) 500 117 (base 66) (c::cs) [] 0 (Wg.J7 #[.pointer (some ⟨gr.blk,gr.off,none⟩),.i 1]) [.code (Tryz.f66.body.getD .skip)]) _ (D7 _ _ rfl);refine At.seq Z2 ?_;refine At.J4 Z2 rfl ?_;refine At.seq Z2 ?_;refine U46 ?_;refine G0.val Z2 (Y0 _) rfl (v:=.i 1) (I0 rfl) ?_;refine G0.val Z2 (Y0 _) rfl (v:=.bool false) (ar0 (r:=false) rfl rfl (by decide)) ?_;refine U550 ?_;refine At.skip Z2 ?_;refine U46 ?_;refine G0.vs0 Z2 (Y0 _) .disable (by simp) (.inl rfl) rfl Tryz.func88 Qt0 rfl rfl Qu0 ?_;simp only[dn0];refine G0.nil Z2 ?_;refine At.region Z2 ?_;refine G0.defer Z2 (Y0 _) [] rfl ?_;refine G0.nil Z2 ?_;refine U46 ?_;refine G0.val Z2 (Y0 _) rfl (v:=.bool false) (Q0 rfl) ?_;refine G0.nil Z2 ?_;refine At.seq Z2 ?_;refine U46 ?_;refine G0.qu0 Z2 (Y0 _) (.bool false) rfl Tryz.func90 Wq0 rfl rfl Xf0 ?_;refine U550 ?_;refine At.skip Z2 ?_;refine U46 ?_;refine U350 ?_;refine G0.val Z2 (Y0 _) rfl (v:=.pointer (some ⟨gr.blk,gr.off,none⟩)) (u3 (s:=1) gr.off gr.off rfl Tryz.underlying141 rfl ln0 (by decide) rfl) ?_;refine G0.val Z2 (Y0 _) rfl (v:=.i 1) (I0 rfl) ?_;refine G0.val Z2 (Y0 _) rfl (v:=.int .u64 1) (m3 (r:=1) rfl Tryz.underlying3 Tryz.underlying136 (by decide)) ?_;refine G0.val Z2 (Y0 _) rfl (v:=.int .u64 4294967296) (Fe0 (r:=4294967296) rfl rfl (by decide) (by decide)) ?_;refine G0.call Z2 (Y0 _) [.pointer (some ⟨gr.blk,gr.off,none⟩),.int .u64 4294967296] 10 rfl Tryz.func94 Wr0 rfl rfl rfl (fun cs1 E5=>?_);refine U46 ?_;refine G0.val Z2 (Y0 _) rfl (v:=.int .u64 0) (Q0 rfl) ?_;refine G0.nil Z2 ?_;refine U46 ?_;refine U350 ?_;refine G0.val Z2 (Y0 _) rfl (v:=.pointer (some ⟨gr.blk,gr.off,none⟩)) (u3 (s:=1) gr.off gr.off rfl Tryz.underlying138 rfl lm0 (by decide) rfl) ?_;refine G0.val Z2 (Y0 _) rfl (v:=.int .u64 4294967296) (I0 rfl) ?_;refine G0.Dp0 (Y0 _) rfl Tryz.func109 Fx0 rfl rfl Fy0 rfl rfl (fun v hv=>?_);rcases Nat.eq_zero_or_pos v with rfl|hv0
 ·refine G0.val V0 (Y0 _) rfl (v:=.int .u64 ((((0+1)*4294967296+0:Nat):Int))) (Q0 rfl) ?_;refine G0.nil V0 ?_;refine At.ret V0 (fun _=>?_);refine AtR.leave1 V0 E5 rfl Tryz.func94 rfl (.int .u64 ((((0+1)*4294967296+0:Nat):Int))) rfl ?_;refine G0.val V0 (Y0 _) rfl (v:=.int .u64 ((((0+1)*4294967296+0:Nat):Int))) (Q0 rfl) ?_;refine U109 ?_;refine G0.val V0 (Y0 _) rfl (v:=.int .u64 ((((0+1)*4294967296+0:Nat):Int))) (I0 rfl) ?_;refine G0.val V0 (Y0 _) rfl (v:=.int .u64 0) (J6 (r:=0) rfl rfl (lk0 (0+1) 0 (by omega) (by omega))) ?_;refine U204 ?_;refine U76 ?_;refine U78 ?_;refine U415 ?_;refine G0.val V0 (Y0 _) rfl (v:=.int .u64 ((((0+1):Nat):Int))) (co0 (r:=(((0+1):Nat):Int)) rfl rfl (by decide) (ll0 (0+1) 0 (by omega))) ?_;refine G0.val V0 (Y0 _) rfl (v:=.int .i32 ((((0+1):Nat):Int))) (m3 (r:=(((0+1):Nat):Int)) rfl Tryz.underlying136 Tryz.underlying21 (bq0 (0+1) (by omega))) ?_;refine G0.val V0 (Y0 _) rfl (v:=.int .i32 ((((0+1):Nat):Int))) (Q0 rfl) ?_;refine G0.nil V0 ?_;refine U415 ?_;refine G0.val V0 (Y0 _) rfl (v:=.int .u64 0) (J6 (r:=0) rfl rfl (fc0 (0+1) 0 (by omega) (by omega))) ?_;refine U345 ?_;refine U109 ?_;refine U391 ?_;refine U507 ?_;refine G0.M8 V0 (Y0 _) rfl rfl (v:=.int .i32 ((((0+1):Nat):Int))) (I0 rfl) ?_;refine U351 ?_;refine G0.M8 V0 (Y0 _) rfl rfl (v:=.bool true) (v9 (r:=true) rfl rfl (decide_eq_true (by omega))) ?_;refine U268 ?_;refine At.region V0 ?_;refine G0.val V0 (Y0 _) rfl (v:=.pointer (some ⟨gr.blk,gr.off,none⟩)) (I0 rfl) ?_;refine G0.val V0 (Y0 _) rfl (v:=.pointer (some ⟨gr.blk,gr.off,none⟩)) (G3 rfl) ?_;refine G0.val V0 (Y0 _) rfl (v:=.pointer (some ⟨gr.blk,gr.off+1,none⟩)) (u3 (s:=1) gr.off (gr.off+1) rfl Tryz.underlying141 rfl Fu0 (by decide) rfl) ?_;refine G0.toUnsafe Kz0 (Y0 _) rfl rfl (.inr rfl) Tryz.underlying172 Tryz.underlying128 Oo0 ?_;refine G0.tp0 V0 (Y0 _) .read (by simp) (.inr (.inl rfl)) rfl Tryz.func95 cz1 rfl rfl dc1 rfl ?_;rw[v8 _ rfl];refine U109 ?_;refine G0.val V0 (Y0 _) rfl (v:=.int .i32 ((((0+1):Nat):Int))) (I0 rfl) ?_;refine U403 ?_;refine U102 ?_;refine U503 ?_;refine U76 ?_;refine U502 ?_;refine U76 ?_;refine U78 ?_;refine U102 ?_;refine G0.val V0 (Y0 _) rfl (v:=.int .i32 ((((0+1):Nat):Int))) (I0 rfl) ?_;refine U365 ?_;refine U130 ?_;refine U268 ?_;refine At.ret V0 (fun _=>?_);refine AtR.mark V0 .enable (by simp) (.inl rfl) Tryz.func89 jv0 rfl rfl jw0 ?_;simp only[w6];exact U537
 ·refine G0.val V0 (Y0 _) rfl (v:=.int .u64 ((((v+1)*4294967296+0:Nat):Int))) (Q0 rfl) ?_;refine G0.nil V0 ?_;refine At.ret V0 (fun _=>?_);refine AtR.leave1 V0 E5 rfl Tryz.func94 rfl (.int .u64 ((((v+1)*4294967296+0:Nat):Int))) rfl ?_;refine G0.val V0 (Y0 _) rfl (v:=.int .u64 ((((v+1)*4294967296+0:Nat):Int))) (Q0 rfl) ?_;refine U109 ?_;refine G0.val V0 (Y0 _) rfl (v:=.int .u64 ((((v+1)*4294967296+0:Nat):Int))) (I0 rfl) ?_;refine G0.val V0 (Y0 _) rfl (v:=.int .u64 0) (J6 (r:=0) rfl rfl (lk0 (v+1) 0 (by omega) (by omega))) ?_;refine U204 ?_;refine U76 ?_;refine U78 ?_;refine U416 ?_;refine G0.val V0 (Y0 _) rfl (v:=.int .u64 ((((v+1):Nat):Int))) (co0 (r:=(((v+1):Nat):Int)) rfl rfl (by decide) (ll0 (v+1) 0 (by omega))) ?_;refine G0.val V0 (Y0 _) rfl (v:=.int .i32 ((((v+1):Nat):Int))) (m3 (r:=(((v+1):Nat):Int)) rfl Tryz.underlying136 Tryz.underlying21 (bq0 (v+1) (by omega))) ?_;refine G0.val V0 (Y0 _) rfl (v:=.int .i32 ((((v+1):Nat):Int))) (Q0 rfl) ?_;refine G0.nil V0 ?_;refine U416 ?_;refine G0.val V0 (Y0 _) rfl (v:=.int .u64 0) (J6 (r:=0) rfl rfl (fc0 (v+1) 0 (by omega) (by omega))) ?_;refine U345 ?_;refine U109 ?_;refine U391 ?_;refine U507 ?_;refine G0.M8 V0 (Y0 _) rfl rfl (v:=.int .i32 ((((v+1):Nat):Int))) (I0 rfl) ?_;refine U351 ?_;refine G0.M8 V0 (Y0 _) rfl rfl (v:=.bool false) (v9 (r:=false) rfl rfl (decide_eq_false (by omega))) ?_;refine G0.val V0 (Y0 _) rfl (v:=.bool false) (Z7 rfl rfl) ?_;refine U78 ?_;refine U452 ?_;refine U403 ?_;refine U102 ?_;refine U503 ?_;refine U76 ?_;refine U502 ?_;refine U76 ?_;refine U78 ?_;refine U452 ?_;refine U365 ?_;refine U130 ?_;refine U268 ?_;refine At.ret V0 (fun _=>?_);refine AtR.mark V0 .enable (by simp) (.inl rfl) Tryz.func89 jv0 rfl rfl jw0 ?_;simp only[w6];exact U537
noncomputable def Aj0:Code:=match Tryz.f70.body with|some (.seq _ (.block _ (.loop c)))=>c|_=>.skip
set_option maxRecDepth 20000 in
theorem Cf0 (gr:N4) (K:Goroutine->Prop) {c:Frame} {cs:List Frame} (hK:K (Conc.G (c.finish (.tuple #[])) cs)):∀(V:Nat),V<2147483648->∀(e:Env),At (YWH Tryz.prog gr K none V) (500*V+500) 84 (base 70) (c::cs) [] 1 (upd e 0 (.pointer (some ⟨gr.blk,gr.off,none⟩))) [.code Aj0,.inLoop Aj0,.inBlock 0]:=by
 intro V
 induction V using Nat.strongRecOn with
 |_ V ih=>
 intro hV e;refine At.block n2 ?_;refine U8 ?_;refine U133 ?_;refine U495 ?_;intro cs1 E5;refine U475 ?_;refine U8 ?_;refine U132 ?_;refine G0.Fn0 (Y0 _) rfl Tryz.func110 vv0 rfl rfl vw0 rfl ?_ (fun v hv hv0=>?_)
 ·refine G0.val G2 (Y0 _) rfl (v:=.int .u64 0) (Q0 rfl) ?_;refine G0.nil G2 ?_;refine At.ret G2 (fun _=>?_);refine AtR.leave1 G2 E5 rfl Tryz.func96 rfl (.int .u64 0) rfl ?_;refine U230 ?_;refine U512 ?_;refine G0.val G2 (Y0 _) rfl (v:=.int .u64 0) (co0 (r:=0) rfl rfl (by decide) (by decide)) ?_;refine G0.val G2 (Y0 _) rfl (v:=.int .i32 0) (m3 (r:=0) rfl Tryz.underlying136 Tryz.underlying21 (by decide)) ?_;refine G0.val G2 (Y0 _) rfl (v:=.int .i32 0) (Q0 rfl) ?_;refine G0.nil G2 ?_;refine U512 ?_;refine G0.val G2 (Y0 _) rfl (v:=.int .u64 0) (J6 (r:=0) rfl rfl (by decide)) ?_;refine G0.val G2 (Y0 _) rfl (v:=.int .u32 0) (m3 (r:=0) rfl Tryz.underlying136 Tryz.underlying139 (by decide)) ?_;refine G0.val G2 (Y0 _) rfl (v:=.int .u32 0) (Q0 rfl) ?_;refine U77 ?_;refine U23 ?_;refine G0.val G2 (Y0 _) rfl (v:=.int .i32 0) (I0 rfl) ?_;refine G0.val G2 (Y0 _) rfl (v:=.bool true) (v9 (r:=true) rfl rfl (by decide)) ?_;refine G0.nil G2 ?_;refine At.J4 G2 rfl ?_;refine At.seq G2 ?_;refine At.J4 G2 rfl ?_;refine U433 ?_;simp only[w6];refine G0.nil G2 ?_;refine U406 ?_;refine U342 ?_;rw[v8 _ rfl];refine U77 ?_;refine U23 ?_;refine U375 ?_;refine U388 ?_;refine U355 ?_;refine U385 ?_;refine G0.off G2 rfl rfl ?_;refine U450 ?_;refine U175 ?_;refine At.ret G2 (fun _=>?_);exact U161
 ·refine G0.val n2 (Y0 _) rfl (v:=.int .u64 (((v*4294967296+0:Nat):Int))) (Q0 rfl) ?_;refine G0.nil n2 ?_;refine At.ret n2 (fun _=>?_);refine U346 ?_;refine G0.nil n2 ?_;refine U145 ?_;refine U314 ?_;refine U440 ?_;refine U145 ?_;refine U327 ?_;refine U463 ?_;refine At.seq n2 ?_;refine U8 ?_;refine U356 ?_;refine U262 ?_;refine U8 ?_;refine U133 ?_;refine U353 ?_;refine U311 ?_;intro cs2 hb2;refine U8 ?_;refine U464 ?_;refine U8 ?_;refine U132 ?_;refine U354 ?_;refine G0.Ny0 (vs:=v) (Y0 _) rfl Tryz.func112 Oe0 rfl rfl On0 rfl rfl rfl ?_ (fun v2 hv2=>?_)
  ·refine G0.val A4 (Y0 _) rfl (v:=.bool true) (Q0 rfl) ?_;refine G0.nil A4 ?_;refine At.ret A4 (fun _=>?_);refine U500 ?_;refine U508 ?_;refine U496 ?_;refine U246 ?_;refine U194 ?_;refine U338 ?_;rw[v8 _ rfl];refine G0.nil A4 ?_;refine U224 ?_;refine U460 ?_;refine U263 ?_;refine U340 ?_;refine U371 ?_;refine U446 ?_;refine U551 ?_;refine At.skip A4 ?_;refine At.seq A4 ?_;refine U194 ?_;refine U389 ?_;refine G0.nil G2 ?_;refine U23 ?_;refine U352 ?_;refine G0.val G2 (Y0 _) rfl (v:=.pointer (some ⟨gr.blk,gr.off,none⟩)) (u3 (s:=1) gr.off gr.off rfl Tryz.underlying141 rfl ln0 (by decide) rfl) ?_;refine G0.call G2 (Y0 _) [.pointer (some ⟨gr.blk,gr.off,none⟩)] 7 rfl Tryz.func96 Lc0 rfl rfl rfl (fun cs3 hb3=>?_);refine U23 ?_;refine U230 ?_;refine U23 ?_;refine U352 ?_;refine G0.val G2 (Y0 _) rfl (v:=.pointer (some ⟨gr.blk,gr.off,none⟩)) (u3 (s:=1) gr.off gr.off rfl Tryz.underlying138 rfl lm0 (by decide) rfl) ?_;refine G0.Ql0 (Y0 _) rfl Tryz.func110 vv0 rfl rfl vw0 rfl ?_;refine U230 ?_;refine At.ret G2 (fun _=>?_);refine AtR.leave1 G2 hb3 rfl Tryz.func96 rfl (.int .u64 0) rfl ?_;refine G0.val G2 (Y0 _) rfl (v:=.bool false) (n7 (r:=false) rfl rfl (by decide)) ?_;refine G0.val G2 (Y0 _) rfl (v:=.bool false) (Q0 rfl) ?_;refine U77 ?_;refine At.J4 G2 rfl ?_;refine U433 ?_;simp only[w6];refine G0.nil G2 ?_;refine U406 ?_;refine U342 ?_;rw[v8 _ rfl];refine U77 ?_;refine U504 ?_;refine U175 ?_;refine At.ret G2 (fun _=>?_);exact U161
  ·refine G0.val n2 (Y0 _) rfl (v:=.bool false) (Q0 rfl) ?_;refine G0.nil n2 ?_;refine At.ret n2 (fun _=>?_);refine U498 ?_;refine U552 ?_;exact At.Fk0 (At.kg0 (fun e=>ih v2 (by omega) (by omega) e) rfl) (by omega)
set_option maxRecDepth 20000 in
theorem Qv0 (gr:N4) (K:Goroutine->Prop) {c:Frame} {cs:List Frame} (hK:K (Conc.G (c.finish (.tuple #[])) cs)) (V:Nat) (hV:V<2147483648):WH Tryz.prog gr (WE Tryz.prog gr K) (500*V+510) none V 0 (Conc.G (Frame.enter Tryz.prog 70 #[.pointer (some ⟨gr.blk,gr.off,none⟩)] .normal) (c::cs)):=by
 rw[enter_at _ Tryz.func70 rfl];refine(?_:At (YWH Tryz.prog gr K none V) (500*V+510) 84 (base 70) (c::cs) [] 0 (Wg.J7 #[.pointer (some ⟨gr.blk,gr.off,none⟩)]) [.code (Tryz.f70.body.getD .skip)]) _ (D7 _ _ rfl);refine At.seq n2 ?_;refine At.J4 n2 rfl ?_;refine U408 ?_;simp only[dn0];refine G0.nil n2 ?_;refine At.block n2 ?_;refine At.loop n2 ?_;exact At.Fk0 (At.kg0 (fun e=>Cf0 gr K hK V hV e) rfl) (by omega)
end
end Go.Proofs.YtnifpkopeheodaaGreat
end
section
namespace Go.Vy.Sc
open Go Go.Conc Go.Yc Go.RowKit Go.Proofs Go.Proofs.YtnifpkopeheodaaGreat Tryz
open Go.Vc
structure CB where
 cb:Nat
 rc:Nat
 sp:Stp
 rf:Value
 df:Value
 N1:Nat
 wt:Bool
 st:Bool
def CB.cells (rb i:Nat) (c:CB):Array Value:=#[.i (i:Int),.p rb,.chan (some c.rc),.i c.sp.kind,.i c.sp.obj,.i c.sp.num,c.rf,c.df,.i (c.N1:Int),.bool c.wt,.bool c.st]
def evC (x:Nat×Stp):List Value:=[.i (x.1:Int),.i x.2.kind,.i x.2.obj,.i x.2.num]
def ntC (x:Nat×Nat×Nte):List Value:=[.i (x.1:Int),.i (x.2.1:Int),.i x.2.2.kind,.string x.2.2.text]
def spC (s:Stp):List Value:=[.i s.kind,.i s.obj,.i s.num]
structure Rn where
 rb:Nat
 yb:Nat
 eb:Nat
 wb:Nat
 m:Nat
 ca:Option Addr
 cc:Nat
 cl:List CB
 ea:Option Addr
 ec:Nat
 evs:List (Nat×Stp)
 na:Option Addr
 nc:Nat
 N2:List (Nat×Nat×Nte)
 ends:List Int
 k8:List Stp
 stuck:Bool
 used:Nat
def Rn.cells (R:Rn):Array Value:=#[.slice R.ca R.cl.length R.cc,.slice R.ea R.evs.length R.ec,.slice R.na R.N2.length R.nc,.slice (pt R.eb) R.m R.m,.slice (pt R.wb) R.m R.m,.bool R.stuck,.i (R.used:Int),.chan (some R.yb)]
structure L4 (w:World) (Bs:Nat) (R:Rn):Prop where
 run:I1 w R.rb R.cells 153 (7,8)
 cls:Own w Bs 91 1 R.ca R.cl.length R.cc (R.cl.map fun c=>.p c.cb)
 evs:Own w Bs 49 4 R.ea R.evs.length R.ec (R.evs.flatMap evC)
 N2:Own w Bs 98 4 R.na R.N2.length R.nc (R.N2.flatMap ntC)
 ends:I1 w R.eb (R.ends.map (Value.int .i64)).toArray 3 (0,0)
 k8:I1 w R.wb (R.k8.flatMap spC).toArray 47 (0,0)
 en0:R.ends.length=R.m
 jx0:R.k8.length=R.m
 lcl:R.cl.length <=R.m
 blk:∀(i:Nat) (c:CB),R.cl[i]? =some c->I1 w c.cb (c.cells R.rb i) 149 (0,3)
def Rn.fp (R:Rn) (k:Nat):Prop:=k=R.rb\/k=R.eb\/k=R.wb\/(R.ca≠none/\k=ab R.ca)\/(R.ea≠none/\k=ab R.ea)\/(R.na≠none/\k=ab R.na)\/∃(i:Nat) (c:CB),R.cl[i]? =some c/\k=c.cb
section
variable {w w':World}{Bs:Nat}{R:Rn}
theorem L4.congr (h:L4 w Bs R) (he:∀k,R.fp k->w'.heap[k]? =w.heap[k]?):L4 w' Bs R :=
 ⟨(he _ (.inl rfl)).trans h.run,Own.congr h.cls fun ha=>he _ (.inr (.inr (.inr (.inl ⟨ha,rfl⟩)))),Own.congr h.evs fun ha=>he _ (.inr (.inr (.inr (.inr (.inl ⟨ha,rfl⟩))))),Own.congr h.N2 fun ha=>he _ (.inr (.inr (.inr (.inr (.inr (.inl ⟨ha,rfl⟩)))))),
  (he _ (.inr (.inl rfl))).trans h.ends,(he _ (.inr (.inr (.inl rfl)))).trans h.k8,h.en0,h.jx0,h.lcl,fun i c hc=>(he _ (.inr (.inr (.inr (.inr (.inr (.inr ⟨i,c,hc,rfl⟩))))))).trans (h.blk i c hc)⟩
theorem L4.lt (h:L4 w Bs R) {k:Nat} (hk:R.fp k):k<w.heap.size:=by
 rcases hk with rfl|rfl|rfl|⟨ha,rfl⟩|⟨ha,rfl⟩|⟨ha,rfl⟩|⟨i,c,hc,rfl⟩
 ·exact h.run.lt
 ·exact h.ends.lt
 ·exact h.k8.lt
 ·exact h.cls.lt ha
 ·exact h.evs.lt ha
 ·exact h.N2.lt ha
 ·exact(h.blk i c hc).lt
theorem L4.A0 (h:L4 w Bs R) (hb:Below w.heap.size w w'):L4 w' Bs R:=h.congr fun k hk=>hb.block k (h.lt hk)
theorem H3 {b:Nat} {cs:Array Value} {T:TypeId} {f:Nat×Nat} {row:Option Nat} (h:I1 w b cs T f) (hg:w.grownBy w' row) (hr:∀r,row=some r->∃c6 T' f',I1 w r c6 T' f'/\T≠T'):I1 w' b cs T f :=
 h.grown hg fun e=>by
  obtain⟨c6,T',f',h',hT⟩:=hr b e.symm;exact h.ne h' hT rfl
theorem Q4 {E:TypeId} {s n c:Nat} {a:Option Addr} {xs:List Value} {row:Option Nat} (h:Own w Bs E s a n c xs) (hg:w.grownBy w' row) (hr:∀r,row=some r->∃c6 T' f',I1 w r c6 T' f'/\E≠T'):Own w' Bs E s a n c xs :=
 Own.congr h fun ha=>by
  obtain⟨cur,hB,_⟩:=h.row ha;refine hg.block _ hB.lt fun e=>?_;obtain⟨c6,T',f',h',hT⟩:=hr (ab a) e.symm;exact I1.ne (f:=(0,0)) hB h' hT rfl
theorem L4.de1 (h:L4 w Bs R) {i j:Nat} {c d:CB} (hc:R.cl[i]? =some c) (hd:R.cl[j]? =some d) (he:c.cb=d.cb):i=j:=by
 have h1:=h.blk i c hc;have h2:=h.blk j d hd;unfold I1 at h1 h2;rw[he,h2]at h1;have:=congrArg (fun o=>match o with|some (Obj.cells c _ _)=>c[0]? |_=>none) h1;simp[CB.cells]at this;omega
theorem Fz0 (l:List CB) (i:Nat) (c c':CB) (hc:l[i]? =some c) (he:c'.cb=c.cb):(l.set i c').map (fun c=>Value.p c.cb)=l.map fun c=>Value.p c.cb:=by
 apply List.ext_getElem?;intro j;rw[List.getElem?_map,List.getElem?_map,List.getElem?_set];by_cases hj:i=j
 ·subst hj;have H2:=(List.getElem?_eq_some_iff.1 hc).1;rw[List.getElem?_eq_getElem H2]at hc;obtain rfl:=Option.some.inj hc;simp[H2,he]
 ·simp[hj]
theorem Rn.Ak0 {i:Nat} {c c':CB} (hc:R.cl[i]? =some c) (he:c'.cb=c.cb) {k:Nat} (hk:Rn.fp {R with cl:=R.cl.set i c'} k):R.fp k:=by
 rcases hk with h|h|h|h|h|h|⟨j,d,hd,rfl⟩
 ·exact .inl h
 ·exact .inr (.inl h)
 ·exact .inr (.inr (.inl h))
 ·exact .inr (.inr (.inr (.inl h)))
 ·exact .inr (.inr (.inr (.inr (.inl h))))
 ·exact .inr (.inr (.inr (.inr (.inr (.inl h)))))
 ·refine .inr (.inr (.inr (.inr (.inr (.inr ?_)))));have H5:(R.cl.set i c')[j]? =some d:=hd;rw[List.getElem?_set]at H5;by_cases hj:i=j
  ·subst hj;rw[if_pos rfl]at H5;split at H5
   ·obtain rfl:=Option.some.inj H5;exact⟨i,c,hc,he⟩
   ·cases H5
  ·rw[if_neg hj]at H5;exact⟨j,d,H5,rfl⟩
theorem L4.Qw0 (h:L4 w Bs R) {i:Nat} {c:CB} (c':CB) (hc:R.cl[i]? =some c) (he:c'.cb=c.cb):L4 (J1 w c.cb (c'.cells R.rb i) 149 (0,3)) Bs {R with cl:=R.cl.set i c'}:=by
 have hg:=Y1 w c.cb (c'.cells R.rb i) 149 (0,3);have hb:=h.blk i c hc;have hr:∀T:TypeId,T≠149->∀r,some c.cb=some r->∃c6 T' f',I1 w r c6 T' f'/\T≠T':=fun T hT r e=>by cases e;exact⟨_,_,_,hb,hT⟩
 refine⟨?_,?_,Q4 h.evs hg (hr _ (by decide)),Q4 h.N2 hg (hr _ (by decide)),H3 h.ends hg (hr _ (by decide)),H3 h.k8 hg (hr _ (by decide)),h.en0,h.jx0,by simpa using h.lcl,fun j d hd=>?_⟩
 ·have:=H3 h.run hg (hr _ (by decide));simpa [Rn.cells]using this
 ·have:=Q4 h.cls hg (hr _ (by decide));show Own _ Bs _ 1 R.ca (R.cl.set i c').length R.cc ((R.cl.set i c').map _);rw[Fz0 R.cl i c c' hc he,List.length_set];exact this
 ·have H5:(R.cl.set i c')[j]? =some d:=hd;rw[List.getElem?_set]at H5;by_cases hj:i=j
  ·subst hj;rw[if_pos rfl]at H5;split at H5
   ·obtain rfl:=Option.some.inj H5;rw[he];exact V4 hb _ _ _
   ·cases H5
  ·rw[if_neg hj]at H5;exact(h.blk j d H5).other hg fun e=>hj (h.de1 H5 hc e).symm
theorem L4.Qx0 (h:L4 w Bs R) (st:Bool) (us:Nat):L4 (J1 w R.rb (Rn.cells {R with stuck:=st,used:=us}) 153 (7,8)) Bs {R with stuck:=st,used:=us}:=by
 have hg:=Y1 w R.rb (Rn.cells {R with stuck:=st,used:=us}) 153 (7,8);have hr:∀T:TypeId,T≠153->∀r,some R.rb=some r->∃c6 T' f',I1 w r c6 T' f'/\T≠T':=fun T hT r e=>by cases e;exact⟨_,_,_,h.run,hT⟩
 exact⟨V4 h.run _ _ _,Q4 h.cls hg (hr _ (by decide)),Q4 h.evs hg (hr _ (by decide)),Q4 h.N2 hg (hr _ (by decide)),H3 h.ends hg (hr _ (by decide)),H3 h.k8 hg (hr _ (by decide)),h.en0,h.jx0,h.lcl,fun j d hd=>H3 (h.blk j d hd) hg (hr _ (by decide))⟩
theorem Le0 {E:TypeId} {s n c:Nat} {a:Option Addr} {xs:List Value} (h:Own w Bs E s a n c xs):∀r,Value.ownBlock (.slice a n c)=some r->∃c6 T' f',I1 w r c6 T' f':=by
 intro r e;cases a with
 |none=>cases e
 |some ad=>
  obtain⟨cur,hB,_⟩:=h.row (by simp);cases e;exact⟨_,_,_,hB⟩
theorem K6 {E T:TypeId} {s n c:Nat} {a:Option Addr} {xs:List Value} (h:Own w Bs E s a n c xs) (hT:T≠E):∀r,Value.ownBlock (.slice a n c)=some r->∃c6 T' f',I1 w r c6 T' f'/\T≠T':=by
 intro r e;cases a with
 |none=>cases e
 |some ad=>
  obtain⟨cur,hB,_⟩:=h.row (by simp);cases e;exact⟨_,_,_,hB,hT⟩
theorem L4.Ga0 (h:L4 w Bs R) {w1:World} {a':Option Addr} {c':Nat} (x:Nat×Stp) (hg:w.grownBy w1 (Value.ownBlock (.slice R.ea R.evs.length R.ec))) (hO:Own w1 Bs 49 4 a' (R.evs.length+1) c' (R.evs.flatMap evC++evC x)) :
  L4 (J1 w1 R.rb (Rn.cells {R with ea:=a',ec:=c',evs:=R.evs ++ [x]}) 153 (7,8)) Bs {R with ea:=a',ec:=c',evs:=R.evs ++ [x]}:=by
 have k4:=H3 h.run hg (K6 h.evs (by decide));have hg2:=Y1 w1 R.rb (Rn.cells {R with ea:=a',ec:=c',evs:=R.evs ++ [x]}) 153 (7,8);have hr:∀T:TypeId,T≠153->∀r,some R.rb=some r->∃c6 T' f',I1 w1 r c6 T' f'/\T≠T':=fun T hT r e=>by cases e;exact⟨_,_,_,k4,hT⟩
 refine⟨V4 k4 _ _ _,Q4 (Q4 h.cls hg (K6 h.evs (by decide))) hg2 (hr _ (by decide)),?_,Q4 (Q4 h.N2 hg (K6 h.evs (by decide))) hg2 (hr _ (by decide)),H3 (H3 h.ends hg (K6 h.evs (by decide))) hg2 (hr _ (by decide)),H3 (H3 h.k8 hg (K6 h.evs (by decide))) hg2 (hr _ (by decide)),h.en0,h.jx0,h.lcl,fun j d hd=>H3 (H3 (h.blk j d hd) hg (K6 h.evs (by decide))) hg2 (hr _ (by decide))⟩;have:=Q4 hO hg2 (hr _ (by decide));simpa using this
theorem L4.Gb0 (h:L4 w Bs R) {w1:World} {a':Option Addr} {c':Nat} (x:CB) (hx:I1 w x.cb (x.cells R.rb R.cl.length) 149 (0,3)) (hm:R.cl.length<R.m) (hg:w.grownBy w1 (Value.ownBlock (.slice R.ca R.cl.length R.cc))) (hO:Own w1 Bs 91 1 a' (R.cl.length+1) c' ((R.cl.map fun c=>.p c.cb) ++ [.p x.cb])) :
  L4 (J1 w1 R.rb (Rn.cells {R with ca:=a',cc:=c',cl:=R.cl ++ [x]}) 153 (7,8)) Bs {R with ca:=a',cc:=c',cl:=R.cl ++ [x]}:=by
 have k4:=H3 h.run hg (K6 h.cls (by decide));have hg2:=Y1 w1 R.rb (Rn.cells {R with ca:=a',cc:=c',cl:=R.cl ++ [x]}) 153 (7,8);have hr:∀T:TypeId,T≠153->∀r,some R.rb=some r->∃c6 T' f',I1 w1 r c6 T' f'/\T≠T':=fun T hT r e=>by cases e;exact⟨_,_,_,k4,hT⟩
 refine⟨V4 k4 _ _ _,?_,Q4 (Q4 h.evs hg (K6 h.cls (by decide))) hg2 (hr _ (by decide)),Q4 (Q4 h.N2 hg (K6 h.cls (by decide))) hg2 (hr _ (by decide)),H3 (H3 h.ends hg (K6 h.cls (by decide))) hg2 (hr _ (by decide)),H3 (H3 h.k8 hg (K6 h.cls (by decide))) hg2 (hr _ (by decide)),h.en0,h.jx0,by simp;omega,fun j d hd=>?_⟩
 ·have:=Q4 hO hg2 (hr _ (by decide));simpa using this
 ·have H5:(R.cl ++ [x])[j]? =some d:=hd;have hb:I1 w d.cb (d.cells R.rb j) 149 (0,3):=by
   rw[List.getElem?_append]at H5;split at H5
   ·exact h.blk j d H5
   ·rename_i H2;have hj:j=R.cl.length:=by
     rcases Nat.lt_or_ge (j-R.cl.length) 1 with z|z
     ·omega
     ·rw[List.getElem?_eq_none (by simpa using z)]at H5;cases H5
    subst hj;simp at H5;subst H5;exact hx
  exact H3 (H3 hb hg (K6 h.cls (by decide))) hg2 (hr _ (by decide))
theorem L4.Qy0 (h:L4 w Bs R) (i:Nat) (v:Int):L4 (J1 w R.eb ((R.ends.set i v).map (Value.int .i64)).toArray 3 (0,0)) Bs {R with ends:=R.ends.set i v}:=by
 have hg:=Y1 w R.eb ((R.ends.set i v).map (Value.int .i64)).toArray 3 (0,0);have hr:∀T:TypeId,T≠3->∀r,some R.eb=some r->∃c6 T' f',I1 w r c6 T' f'/\T≠T':=fun T hT r e=>by cases e;exact⟨_,_,_,h.ends,hT⟩
 exact⟨H3 h.run hg (hr _ (by decide)),Q4 h.cls hg (hr _ (by decide)),Q4 h.evs hg (hr _ (by decide)),Q4 h.N2 hg (hr _ (by decide)),V4 h.ends _ _ _,H3 h.k8 hg (hr _ (by decide)),by simpa using h.en0,h.jx0,h.lcl,fun j d hd=>H3 (h.blk j d hd) hg (hr _ (by decide))⟩
theorem L4.Qz0 (h:L4 w Bs R) (i:Nat) (v:Stp):L4 (J1 w R.wb ((R.k8.set i v).flatMap spC).toArray 47 (0,0)) Bs {R with k8:=R.k8.set i v}:=by
 have hg:=Y1 w R.wb ((R.k8.set i v).flatMap spC).toArray 47 (0,0);have hr:∀T:TypeId,T≠47->∀r,some R.wb=some r->∃c6 T' f',I1 w r c6 T' f'/\T≠T':=fun T hT r e=>by cases e;exact⟨_,_,_,h.k8,hT⟩
 exact⟨H3 h.run hg (hr _ (by decide)),Q4 h.cls hg (hr _ (by decide)),Q4 h.evs hg (hr _ (by decide)),Q4 h.N2 hg (hr _ (by decide)),H3 h.ends hg (hr _ (by decide)),V4 h.k8 _ _ _,h.en0,by simpa using h.jx0,h.lcl,fun j d hd=>H3 (h.blk j d hd) hg (hr _ (by decide))⟩
structure Rg (S:Nat->Prop) (B:Nat) (w0 w:World) (Bs:Nat) (R:Rn):Prop where
 m:L4 w Bs R
 md:fe0 S B w0 w
 fp:∀k,R.fp k->S k\/B <=k
 le:B <=w.heap.size
end
section
variable {S:Nat->Prop}{B:Nat}{w0 w w':World}{Bs:Nat}{R:Rn}
theorem L4.rg (h:L4 w Bs R):Rg R.fp w.heap.size w w Bs R:=⟨h,fe0.refl _ _ _,fun _ h=>.inl h,Nat.le_refl _⟩
theorem Rg.A0 (h:Rg S B w0 w Bs R) (hb:Below w.heap.size w w'):Rg S B w0 w' Bs R:=⟨h.m.A0 hb,h.md.below hb h.le,h.fp,Nat.le_trans h.le hb.size⟩
theorem Rg.fresh (h:Rg S B w0 w Bs R) {b:Nat} (cs:Array Value) (T:TypeId) (f:Nat×Nat) (hb:∀k,R.fp k->k≠b) (hB:B <=b):Rg S B w0 (J1 w b cs T f) Bs R :=
 ⟨h.m.congr fun k hk=>Z6 (hb k hk),h.md.grown (Y1 w b cs T f) h.le (fun r e=>by cases e;exact .inr hB),h.fp,by rw[x5];exact h.le⟩
theorem Rg.put (h:Rg S B w0 w Bs R) {b:Nat} {cs:Array Value} {T:TypeId} {f:Nat×Nat} {R':Rn} (hb:R.fp b) (hm:L4 (J1 w b cs T f) Bs R') (hf:∀k,R'.fp k->R.fp k):Rg S B w0 (J1 w b cs T f) Bs R' :=
 ⟨hm,h.md.grown (Y1 w b cs T f) h.le (fun r e=>by cases e;exact h.fp _ hb),fun k hk=>h.fp k (hf k hk),by rw[x5];exact h.le⟩
theorem Xi0 {i:Nat} {c:CB} (hc:R.cl[i]? =some c):R.fp c.cb:=.inr (.inr (.inr (.inr (.inr (.inr ⟨i,c,hc,rfl⟩)))))
theorem Rg.Qw0 (h:Rg S B w0 w Bs R) {i:Nat} {c:CB} (c':CB) (hc:R.cl[i]? =some c) (he:c'.cb=c.cb):Rg S B w0 (J1 w c.cb (c'.cells R.rb i) 149 (0,3)) Bs {R with cl:=R.cl.set i c'} :=
 h.put (Xi0 hc) (h.m.Qw0 c' hc he) fun _ hk=>Rn.Ak0 hc he hk
theorem Rg.Qx0 (h:Rg S B w0 w Bs R) (st:Bool) (us:Nat):Rg S B w0 (J1 w R.rb (Rn.cells {R with stuck:=st,used:=us}) 153 (7,8)) Bs {R with stuck:=st,used:=us} :=
 h.put (.inl rfl) (h.m.Qx0 st us) fun _ hk=>hk
theorem Rg.Qy0 (h:Rg S B w0 w Bs R) (i:Nat) (v:Int):Rg S B w0 (J1 w R.eb ((R.ends.set i v).map (Value.int .i64)).toArray 3 (0,0)) Bs {R with ends:=R.ends.set i v} :=
 h.put (.inr (.inl rfl)) (h.m.Qy0 i v) fun _ hk=>hk
theorem Rg.Qz0 (h:Rg S B w0 w Bs R) (i:Nat) (v:Stp):Rg S B w0 (J1 w R.wb ((R.k8.set i v).flatMap spC).toArray 47 (0,0)) Bs {R with k8:=R.k8.set i v} :=
 h.put (.inr (.inr (.inl rfl))) (h.m.Qz0 i v) fun _ hk=>hk
def Lf0 (w:World) (a a':Option Addr):Prop:=a'≠none->(a≠none/\ab a'=ab a)\/w.heap.size <=ab a'
theorem Al0 {a:Option Addr} {n c r:Nat} (e:Value.ownBlock (.slice a n c)=some r):a≠none/\r=ab a:=by
 cases a with
 |none=>cases e
 |some ad=>exact⟨by simp,by cases e;rfl⟩
theorem Rg.app (h:Rg S B w0 w Bs R) {R':Rn} {row:Option Nat} {w1:World} (hg:w.grownBy w1 row) (hr:∀r,row=some r->R.fp r) (hb:R'.rb=R.rb) (hm:L4 (J1 w1 R.rb R'.cells 153 (7,8)) Bs R') (hf:∀k,R'.fp k->R.fp k\/w.heap.size <=k) :
  Rg S B w0 (J1 w1 R.rb R'.cells 153 (7,8)) Bs R' :=
 ⟨hm,(h.md.grown hg h.le fun r e=>h.fp r (hr r e)).grown (Y1 _ _ _ _ _) (Nat.le_trans h.le hg.size) (fun r e=>by cases e;exact h.fp _ (.inl rfl)),fun k hk=>by
  rcases hf k hk with z|z
  ·exact h.fp k z
  ·have:=h.le;exact .inr (by omega),by rw[x5];exact Nat.le_trans h.le hg.size⟩
theorem Rg.Ga0 (h:Rg S B w0 w Bs R) {w1:World} {a':Option Addr} {c':Nat} (x:Nat×Stp) (hg:w.grownBy w1 (Value.ownBlock (.slice R.ea R.evs.length R.ec))) (hO:Own w1 Bs 49 4 a' (R.evs.length+1) c' (R.evs.flatMap evC++evC x)) (hl:Lf0 w R.ea a') :
  Rg S B w0 (J1 w1 R.rb (Rn.cells {R with ea:=a',ec:=c',evs:=R.evs ++ [x]}) 153 (7,8)) Bs {R with ea:=a',ec:=c',evs:=R.evs ++ [x]} :=
 h.app (R':={R with ea:=a',ec:=c',evs:=R.evs ++ [x]}) hg (fun r e=>by obtain⟨h1,rfl⟩:=Al0 e;exact .inr (.inr (.inr (.inr (.inl ⟨h1,rfl⟩))))) rfl (h.m.Ga0 x hg hO) fun k hk=>by
  rcases hk with z|z|z|z|⟨z1,z2⟩|z|z
  ·exact .inl (.inl z)
  ·exact .inl (.inr (.inl z))
  ·exact .inl (.inr (.inr (.inl z)))
  ·exact .inl (.inr (.inr (.inr (.inl z))))
  ·rcases hl z1 with⟨y1,y2⟩|y
   ·exact .inl (.inr (.inr (.inr (.inr (.inl ⟨y1,by rw[z2];exact y2⟩)))))
   ·exact .inr (by rw[z2];exact y)
  ·exact .inl (.inr (.inr (.inr (.inr (.inr (.inl z))))))
  ·exact .inl (.inr (.inr (.inr (.inr (.inr (.inr z))))))
theorem Rg.Gb0 (h:Rg S B w0 w Bs R) {w1:World} {a':Option Addr} {c':Nat} (x:CB) (hx:I1 w x.cb (x.cells R.rb R.cl.length) 149 (0,3)) (hxS:S x.cb\/B <=x.cb) (hm:R.cl.length<R.m) (hg:w.grownBy w1 (Value.ownBlock (.slice R.ca R.cl.length R.cc)))
  (hO:Own w1 Bs 91 1 a' (R.cl.length+1) c' ((R.cl.map fun c=>.p c.cb) ++ [.p x.cb])) (hl:Lf0 w R.ca a') :
  Rg S B w0 (J1 w1 R.rb (Rn.cells {R with ca:=a',cc:=c',cl:=R.cl ++ [x]}) 153 (7,8)) Bs {R with ca:=a',cc:=c',cl:=R.cl ++ [x]}:=by
 have h1:=h.m.Gb0 x hx hm hg hO;refine⟨h1,(h.md.grown hg h.le fun r e=>h.fp r (by obtain⟨h1,rfl⟩:=Al0 e;exact .inr (.inr (.inr (.inl ⟨h1,rfl⟩))))).grown (Y1 _ _ _ _ _) (Nat.le_trans h.le hg.size) (fun r e=>by cases e;exact h.fp _ (.inl rfl)),fun k hk=>?_,by rw[x5];exact Nat.le_trans h.le hg.size⟩;rcases hk with z|z|z|⟨z1,z2⟩|z|z|⟨i,d,hd,z⟩
 ·exact h.fp _ (.inl z)
 ·exact h.fp _ (.inr (.inl z))
 ·exact h.fp _ (.inr (.inr (.inl z)))
 ·rcases hl z1 with⟨y1,y2⟩|y
  ·exact h.fp _ (.inr (.inr (.inr (.inl ⟨y1,by rw[z2];exact y2⟩))))
  ·have:=h.le;exact .inr (by rw[z2];show B <=ab a';omega)
 ·exact h.fp _ (.inr (.inr (.inr (.inr (.inl z)))))
 ·exact h.fp _ (.inr (.inr (.inr (.inr (.inr (.inl z))))))
 ·have H5:(R.cl ++ [x])[i]? =some d:=hd;rw[List.getElem?_append]at H5;split at H5
  ·exact h.fp _ (.inr (.inr (.inr (.inr (.inr (.inr ⟨i,d,H5,z⟩))))))
  ·have hdx:d=x:=by
    have:=List.mem_of_getElem? H5;simpa using this
   subst hdx;rw[z];exact hxS
end
section
variable {w:World}{Bs:Nat}{R:Rn}
theorem Gc0 (hM:L4 w Bs R) {i:Nat} {c:CB} (hc:R.cl[i]? =some c):w.cell? ⟨ab R.ca,ao R.ca+i*1,none⟩=some (.p c.cb):=by
 rw[hM.cls.off,Nat.zero_add,Nat.mul_one];exact hM.cls.cell (by rw[List.getElem?_map,hc];rfl)
def rdl (cl:List CB) (r:Nat->Bool) (n:Nat):List Nat:=(List.range n).filter fun i=>(cl[i]?.any (·.wt))&&r i
def Gd0 (cl:List CB) (i:Nat):Value:=.pointer (some ⟨(cl[i]?.map (·.cb)).getD 0,0,none⟩)
theorem Ge0 {cl:List CB} {r:Nat->Bool} {i:Nat} {c:CB} (hc:cl[i]? =some c) (h:(c.wt&&r i)=false):rdl cl r (i+1)=rdl cl r i:=by
 unfold rdl;rw[List.range_succ,List.filter_append];simp[hc,h]
theorem Am0 {cl:List CB} {r:Nat->Bool} {i:Nat} {c:CB} (hc:cl[i]? =some c) (h:(c.wt&&r i)=true):rdl cl r (i+1)=rdl cl r i ++ [i]:=by
 unfold rdl;rw[List.range_succ,List.filter_append];simp only[Bool.and_eq_true]at h;simp[hc,h.1,h.2]
theorem xx0 {cl:List CB} {r:Nat->Bool} (n:Nat):(rdl cl r n).length <=n:=by
 have:=List.length_filter_le (fun i=>(cl[i]?.any (·.wt))&&r i) (List.range n);simpa [rdl]using this
theorem Xj0 {cl:List CB} {i:Nat} (h:∀(j:Nat) (c:CB),j<i->cl[j]? =some c->c.wt=false) (hi:cl.length <=i):cl.any (·.wt)=false:=by
 rw[List.any_eq_false];intro c hc;obtain⟨j,hj⟩:=List.mem_iff_getElem?.1 hc;have:=h j c (by have:=(List.getElem?_eq_some_iff.1 hj).1;omega) hj;simp[this]
def tu0 [Ctx prog] (w0:World) (rf:Value) (b:Bool):Prop :=
 (rf= .nilFunc/\b=true)\/∃f fn caps,rf= .func (.func f) #[] caps/\prog.funcs[f]? =some fn/\fn.body.isSome=true/\(fn.name== "runtime.NumGoroutine")=false/\∀u,Below w0.heap.size w0 u->C prog f caps u fun v u'=>v= .bool b/\Below u.heap.size u u'
end
section
variable [Ctx prog]{n:Nat}{Q:Exit->Env->World->Prop}{e:Env}{ops:Array Oper}{rest:List Oper}{ty:TypeId}{ps:String}{af:Array Edge}{T:TypeId}{x y:Operand}
variable {S:Nat->Prop}{B:Nat}{w0 w:World}{Bs:Nat}{R:Rn}
theorem L.stC {i:Nat} {c:CB} {o s:Nat} {v:Value} {vs:List Value} (hg:Rg S B w0 w Bs R) (c':CB) (hc:R.cl[i]? =some c) (he:c'.cb=c.cb) (hx:ev e x= .pointer (some ⟨c.cb,o,none⟩)) (hy:ev e y=v) (hvs:v.cells.toList=vs) (hs:(prog.info? T).map (·.size)=some s) (hl:vs.length=s) (h1:vs.all Value.oneCell'=true) (ho:3 <=o/\o+s <=11) (hcs:setRow (c.cells R.rb i) o vs=c'.cells R.rb i)
  (k:∀w1,Rg S B w0 w1 Bs {R with cl:=R.cl.set i c'}->w.grownBy w1 (some c.cb)->L prog n ops Q rest e w1):L prog n ops Q (⟨none,.store T x y,ty,ps,af,none⟩::rest) e w :=
 L.By0 (c'.cells R.rb i) hx hy hvs hs hl h1 (hg.m.blk i c hc) ho.2 (.inr ho.1) hcs (k _ (hg.Qw0 c' hc he) (Y1 _ _ _ _ _))
theorem L.stR {o s:Nat} {v:Value} {vs:List Value} (hg:Rg S B w0 w Bs R) (st:Bool) (us:Nat) (hx:ev e x= .pointer (some ⟨R.rb,o,none⟩)) (hy:ev e y=v) (hvs:v.cells.toList=vs) (hs:(prog.info? T).map (·.size)=some s) (hl:vs.length=s) (h1:vs.all Value.oneCell'=true) (ho:o+s <=7) (hcs:setRow R.cells o vs=Rn.cells {R with stuck:=st,used:=us})
  (k:∀w1,Rg S B w0 w1 Bs {R with stuck:=st,used:=us}->w.grownBy w1 (some R.rb)->L prog n ops Q rest e w1):L prog n ops Q (⟨none,.store T x y,ty,ps,af,none⟩::rest) e w :=
 L.By0 (Rn.cells {R with stuck:=st,used:=us}) hx hy hvs hs hl h1 hg.m.run (show o+s <=8 by omega) (.inl (show o+s <=7 by omega)) hcs (k _ (hg.Qx0 st us) (Y1 _ _ _ _ _))
theorem L.df1 {o:Nat} {v:Value} {w1:World} {a':Option Addr} {c':Nat} (hg:Rg S B w0 w Bs R) (x':Nat×Stp) (J3:w.grownBy w1 (Value.ownBlock (.slice R.ea R.evs.length R.ec))) (hO:Own w1 Bs 49 4 a' (R.evs.length+1) c' (R.evs.flatMap evC++evC x')) (hli:Lf0 w R.ea a')
  (hx:ev e x= .pointer (some ⟨R.rb,1,none⟩)) (hy:ev e y= .slice a' (R.evs.length+1) c') (hs:(prog.info? T).map (·.size)=some 1)
  (k:∀w2,Rg S B w0 w2 Bs {R with ea:=a',ec:=c',evs:=R.evs ++ [x']}->L prog n ops Q rest e w2):L prog n ops Q (⟨none,.store T x y,ty,ps,af,none⟩::rest) e w1 :=
 L.By0 (Rn.cells {R with ea:=a',ec:=c',evs:=R.evs ++ [x']}) hx hy rfl hs rfl rfl (H3 hg.m.run J3 (K6 hg.m.evs (by decide))) (show 1+1 <=8 by omega) (.inl (show 1+1 <=7 by omega)) (by simp[Rn.cells,setRow,Value.cells]) (k _ (hg.Ga0 x' J3 hO hli))
theorem L.dg1 {w1:World} {a':Option Addr} {c':Nat} (hg:Rg S B w0 w Bs R) (x':CB) (hx0:I1 w x'.cb (x'.cells R.rb R.cl.length) 149 (0,3)) (hxS:S x'.cb\/B <=x'.cb) (hm:R.cl.length<R.m) (J3:w.grownBy w1 (Value.ownBlock (.slice R.ca R.cl.length R.cc)))
  (hO:Own w1 Bs 91 1 a' (R.cl.length+1) c' ((R.cl.map fun c=>.p c.cb) ++ [.p x'.cb])) (hli:Lf0 w R.ca a')
  (hx:ev e x= .p R.rb) (hy:ev e y= .slice a' (R.cl.length+1) c') (hs:(prog.info? T).map (·.size)=some 1)
  (k:∀w2,Rg S B w0 w2 Bs {R with ca:=a',cc:=c',cl:=R.cl ++ [x']}->w1.grownBy w2 (some R.rb)->L prog n ops Q rest e w2):L prog n ops Q (⟨none,.store T x y,ty,ps,af,none⟩::rest) e w1 :=
 L.By0 (Rn.cells {R with ca:=a',cc:=c',cl:=R.cl ++ [x']}) hx hy rfl hs rfl rfl (H3 hg.m.run J3 (K6 hg.m.cls (by decide))) (show 0+1 <=8 by omega) (.inl (show 0+1 <=7 by omega)) (by simp[Rn.cells,setRow,Value.cells]) (k _ (hg.Gb0 x' hx0 hxS hm J3 hO hli) (Y1 _ _ _ _ _))
end
section
theorem Cg0 (l:List Stp) (i:Nat) (s:Stp) (hi:i<l.length):setRow (l.flatMap spC).toArray (i*3) (spC s)=((l.set i s).flatMap spC).toArray:=by
 apply Array.toList_inj.1;have key:∀(l:List Stp) (i:Nat),i<l.length->(l.set i s).flatMap spC=(((l.flatMap spC).set (i*3) (.i s.kind)).set (i*3+1) (.i s.obj)).set (i*3+2) (.i s.num):=by
  intro l
  induction l with
  |nil=>intro i hi;simp at hi
  |cons a l ih=>
   intro i hi;cases i with
   |zero=>simp[spC,List.flatMap_cons]
   |succ i=>
    have:=ih i (by simpa using hi);simp only[List.set_cons_succ,List.flatMap_cons,spC,List.cons_append,List.nil_append];rw[show(i+1)*3=i*3+1+1+1 by omega];simp only[List.set_cons_succ];rw[this]
 rw[key l i hi];simp[setRow,spC]
end
section
variable [Ctx prog]{n:Nat}{Q:Exit->Env->World->Prop}{e:Env}{ops:Array Oper}{rest:List Oper}{ty:TypeId}{ps:String}{af:Array Edge}{T:TypeId}{x y:Operand}
variable {S:Nat->Prop}{B:Nat}{w0 w:World}{Bs:Nat}{R:Rn}
theorem L.stE {i:Nat} {z:Int} (hg:Rg S B w0 w Bs R) (hi:i<R.m) (hx:ev e x= .pointer (some ⟨R.eb,0+i*1,none⟩)) (hy:ev e y= .i z) (hs:(prog.info? T).map (·.size)=some 1)
  (k:∀w1,Rg S B w0 w1 Bs {R with ends:=R.ends.set i z}->w.grownBy w1 (some R.eb)->L prog n ops Q rest e w1):L prog n ops Q (⟨none,.store T x y,ty,ps,af,none⟩::rest) e w:=by
 refine L.By0 _ hx hy rfl hs rfl rfl hg.m.ends (by rw[Nat.zero_add,Nat.mul_one];simp[hg.m.en0];omega) (.inr (by simp)) ?_ (k _ (hg.Qy0 i z) (Y1 _ _ _ _ _));rw[Nat.zero_add,Nat.mul_one];apply Array.toList_inj.1;simp[setRow,Value.cells,List.map_set]
theorem L.stW {i:Nat} {z:Stp} (hg:Rg S B w0 w Bs R) (hi:i<R.m) (hx:ev e x= .pointer (some ⟨R.wb,0+i*3,none⟩)) (hy:ev e y=jf0 z) (hs:(prog.info? T).map (·.size)=some 3)
  (k:∀w1,Rg S B w0 w1 Bs {R with k8:=R.k8.set i z}->w.grownBy w1 (some R.wb)->L prog n ops Q rest e w1):L prog n ops Q (⟨none,.store T x y,ty,ps,af,none⟩::rest) e w:=by
 have hln:(R.k8.flatMap spC).length=R.m*3:=by
  rw[<- hg.m.jx0];generalize R.k8=l
  induction l with
  |nil=>rfl
  |cons a l ih=>simp only[List.flatMap_cons,List.length_append,ih,List.length_cons];simp[spC];omega
 refine L.By0 (vs:=spC z) _ hx hy rfl hs rfl rfl hg.m.k8 (by simp only[List.size_toArray,hln];omega) (.inr (by simp)) ?_ (k _ (hg.Qz0 i z) (Y1 _ _ _ _ _));rw[Nat.zero_add];exact Cg0 R.k8 i z (by rw[hg.m.jx0];exact hi)
end
section
variable [Ctx prog]
theorem Gf0 (rb i:Nat) (c:CB) (w:World) (hC:I1 w c.cb (c.cells rb i) 149 (0,3)):C prog 47 #[.p c.cb] w fun v w1=>v= .i (i:Int)/\w1=w:=by
 refine C.enter (n:=9) func47 rfl rfl ?_;refine U2 ?_;refine U15 ?_;refine U7 ?_;refine L.va (K3 rfl) ?_;refine L.va (c5 rfl rfl underlying91) ?_;refine U62 ?_;refine U528 ?_;refine L.va (E0 rfl underlying3 rfl (hC.F0 0 (v:=.i (i:Int)) rfl)) ?_;refine U33 ?_;exact⟨rfl,rfl⟩
theorem xy0 (R:Rn) (Bs:Nat) (w0:World) (hM:L4 w0 Bs R) (hm:R.cl.length <=1000):C prog 79 #[.p R.rb] w0 fun v w1=>v= .bool (R.cl.any (·.wt))/\w1=w0:=by
 refine C.enter (n:=19) func79 rfl rfl ?_;refine U2 ?_;refine U9 ?_;refine U7 ?_;refine U152 ?_;refine U381 ?_;refine L.va (Y3 rfl) ?_;refine U96 ?_;refine W.loop (fun k e w=>∃(i:Nat),k=R.cl.length-i/\e 0= .p R.rb/\e 2= .bool false/\e 8= .slice R.ca R.cl.length (R.cc)/\e 9= .i (R.cl.length:Nat)/\e 10= .i (i:Int)/\i <=R.cl.length/\(∀(j:Nat) (c:CB),j<i->R.cl[j]? =some c->c.wt=false)/\w=w0) _ ⟨0,rfl,rfl,rfl,rfl,rfl,rfl,Nat.zero_le _,fun j c hj=>absurd hj (Nat.not_lt_zero _),rfl⟩ ?_;rintro k e w ⟨i,hk,s0,s2,s8,s9,s10,hi,z8,hw⟩;rw[L1 s0,L1 s2,L1 s8,L1 s9,L1 s10];clear s0 s2 s8 s9 s10;subst hw;refine U2 ?_;refine U79 ?_;refine W.seq ?_;refine W.ct0 rfl (fun h11=>?_) (fun h11=>?_)
 ·have H2:i<R.cl.length:=by omega
  obtain⟨c,hc⟩:∃c,R.cl[i]? =some c:=⟨_,List.getElem?_eq_getElem H2⟩
  refine U60 ?_;refine U2 ?_;refine U382 ?_;refine U39 ?_;refine U451 ?_;refine U4 ?_;refine W.cond rfl (fun h17=>?_) (fun h17=>?_)
  ·refine W.seq ?_;refine W.region rfl ?_;refine U35 ?_;exact⟨congrArg Value.bool (List.any_eq_true.2 ⟨c,List.mem_of_getElem? hc,h17⟩).symm,rfl⟩
  ·refine W.skip ?_;refine U112 ?_;refine T.nrm ?_;exact⟨_,by omega,⟨i+1,rfl,rfl,rfl,rfl,rfl,rfl,(by omega),(fun j d hj hd=>by
     rcases Nat.lt_or_ge j i with z|z
     ·exact z8 j d z hd
     ·obtain rfl:j=i:=by omega
      rw[hc]at hd;obtain rfl:=Option.some.inj hd;exact h17),rfl⟩⟩
 ·refine W.exit ?_;refine U117 ?_;refine U35 ?_;exact⟨congrArg Value.bool (Xj0 z8 (by omega)).symm,rfl⟩
theorem qy0 (R:Rn) (Bs:Nat) (w0:World) (hM:L4 w0 Bs R) (hm:R.cl.length <=1000) (r:Nat->Bool) (hrd:∀(i:Nat) (c:CB),R.cl[i]? =some c->c.wt=true->tu0 w0 c.rf (r i)):C prog 77 #[.p R.rb] w0 fun v w=>∃a cp,v= .slice a (rdl R.cl r R.cl.length).length cp/\Own w w0.heap.size 91 1 a (rdl R.cl r R.cl.length).length cp ((rdl R.cl r R.cl.length).map (Gd0 R.cl))/\Below w0.heap.size w0 w:=by
 refine C.enter (n:=39) func77 rfl rfl ?_;refine U3 ?_;intro hb;refine L.va (ak0 rfl) ?_;refine U10 ?_;refine L.va (ak0 rfl) ?_;refine U61 ?_;refine U152 ?_;refine L.va (E0 rfl underlying151 rfl ((hM.A0 hb).run.F0 0 (v:=.slice R.ca R.cl.length R.cc) rfl)) ?_;refine L.va (H6 rfl underlying151 rfl) ?_;refine L.va (Y3 rfl) ?_;refine U96 ?_;refine W.loop (fun k e w=>∃(i:Nat),∃(a:Option Addr),∃(q:Nat),∃(cp:Nat),k=R.cl.length-i/\e 0= .p R.rb/\e 2= .slice none 0 0/\e 3= .slice a q cp/\e 9= .slice R.ca R.cl.length (R.cc)/\e 10= .i (R.cl.length:Nat)/\e 11= .i (i:Int)/\i <=R.cl.length/\q=(rdl R.cl r i).length/\Own w w0.heap.size 91 1 a q cp ((rdl R.cl r i).map (Gd0 R.cl))/\Below w0.heap.size w0 w) _ ⟨0,none,0,0,rfl,rfl,rfl,rfl,rfl,rfl,rfl,Nat.zero_le _,rfl,Own.nil _ _ _ _,hb⟩ ?_;rintro k e w ⟨i,a,q,cp,hk,s0,s2,s3,s9,s10,s11,hi,hq,hO,hb⟩;rw[L1 s0,L1 s2,L1 s3,L1 s9,L1 s10,L1 s11];clear s0 s2 s3 s9 s10 s11;refine U2 ?_;refine U79 ?_;refine W.seq ?_;refine W.ct0 rfl (fun h12=>?_) (fun h12=>?_)
 ·have H2:i<R.cl.length:=by omega
  obtain⟨c,hc⟩:∃c,R.cl[i]? =some c:=⟨_,List.getElem?_eq_getElem H2⟩
  obtain⟨cb,rc,sp,rf,df,pk,wt,st⟩:=c;refine U60 ?_;refine U2 ?_;refine L.va (M5 (i:=i) rfl rfl underlying151 Ft0 hM.cls.sl H2) ?_;refine L.va (E0 (v:=.p cb) rfl underlying91 rfl (Gc0 (hM.A0 hb) hc)) ?_;refine U30 ?_;refine W.seq ?_;cases wt with
  |false=>
   refine W.region rfl ?_;refine U42 ?_;refine L.va (E0 rfl underlying4 rfl (((hM.A0 hb).blk i _ hc).F0 9 (v:=.bool false) rfl)) ?_;refine U272 ?_;refine U177 ?_;refine U177 ?_;refine U43 ?_;have hrl:=Ge0 (r:=r) hc rfl;show W _ _ _ _ _ _;refine W.O5 rfl ?_;refine W.skip ?_;refine U112 ?_;exact U379
  |true=>
   rcases hrd i _ hc rfl with⟨h1,h2⟩|⟨f,fn,caps,h1,hf,hbd,hnm,X4⟩
   all_goals dsimp only at h1
   all_goals subst h1
   ·refine W.region rfl ?_;refine U417 ?_;refine U115 ?_;refine U242 ?_;refine L.on rfl ?_;refine L.va (E0 rfl underlying25 rfl (((hM.A0 hb).blk i _ hc).F0 6 (v:=.nilFunc) rfl)) ?_;refine L.on rfl ?_;refine L.va (C7 (v:=.nilFunc) (b:=true) rfl (.inl ⟨rfl,rfl⟩) rfl underlying25 ⟨_,_,_,rfl⟩) ?_;refine L.on rfl ?_;refine U272 ?_;refine L.off rfl ?_;refine L.on rfl ?_;refine L.va (Q7 rfl) ?_;refine U141 ?_;have hrl:=Am0 (r:=r) hc h2;show W _ _ _ _ _ _;refine W.J4 rfl ?_;refine U553 ?_;refine U501 ?_;intro w b35 F35;have hb:=O0 hb F35.below;have hO:=hO.A0 F35.below;have Ra0:=F35.blk;have hOl:=xx0 (cl:=R.cl) (r:=r) i;refine L.ef0 (B:=w0.heap.size) (m:=1) rfl rfl underlying151 Qs0 rfl (by decide) hO (fun h=>by cases h) (news:=[.p cb]) rfl (fun ad had j u hj=>by
     cases had;rw[Addr.add_lit]
     match j,hj with
     |0,hj=>cases hj;exact Ra0.F0 0 rfl) (fun u hu=>by simp only[List.mem_cons,List.not_mem_nil,or_false]at hu;subst hu;rfl) (by omega) (by omega) hb.size (fun a2 cp2 w2 hO2 hg2 di0 _=>?_)
    have hb:=hb.trans di0
    rename World=>w
    refine U265 ?_;refine U112 ?_;exact U341
   ·refine W.region rfl ?_;refine U417 ?_;refine U115 ?_;refine U242 ?_;refine U386 ?_;refine L.on rfl ?_;refine L.va (C7 (v:=.func (.func f) #[] caps) (b:=false) rfl (.inr ⟨_,_,_,rfl,rfl⟩) rfl underlying25 ⟨_,_,_,rfl⟩) ?_;refine L.on rfl ?_;refine U115 ?_;refine U242 ?_;refine U386 ?_;refine L.on rfl ?_;refine L.call (gb0 rfl hf hbd hnm) (X4 w hb) ?_;rintro _ w ⟨rfl,j2⟩;have hb:=O0 hb j2;have hO:=hO.A0 j2;refine L.on rfl ?_;refine L.va (R7 rfl) ?_;refine L.va (Q7 rfl) ?_;refine U4 ?_;refine W.cond rfl (fun h32=>?_) (fun h32=>?_)
    ·have hrl:=Am0 (r:=r) hc h32;refine U553 ?_;refine U501 ?_;intro w b35 F35;have hb:=O0 hb F35.below;have hO:=hO.A0 F35.below;have Ra0:=F35.blk;have hOl:=xx0 (cl:=R.cl) (r:=r) i;refine L.ef0 (B:=w0.heap.size) (m:=1) rfl rfl underlying151 Qs0 rfl (by decide) hO (fun h=>by cases h) (news:=[.p cb]) rfl (fun ad had j u hj=>by
      cases had;rw[Addr.add_lit]
      match j,hj with
      |0,hj=>cases hj;exact Ra0.F0 0 rfl) (fun u hu=>by simp only[List.mem_cons,List.not_mem_nil,or_false]at hu;subst hu;rfl) (by omega) (by omega) hb.size (fun a2 cp2 w2 hO2 hg2 di0 _=>?_)
     have hb:=hb.trans di0
     rename World=>w
     refine U265 ?_;refine U112 ?_;exact U341
    ·have hrl:=Ge0 (r:=r) hc h32;refine W.skip ?_;refine U112 ?_;exact U379
 ·refine W.exit ?_;refine U117 ?_;refine L.va (I8 rfl) ?_;refine L.va (ak0 rfl) ?_;refine U4 ?_;refine U70 ?_;obtain rfl:i=R.cl.length:=by omega
  subst hq;exact⟨a,cp,rfl,hO,hb⟩
end
end Go.Vy.Sc
end
section
namespace Go.Vy
open Go Go.Conc Go.Yc Go.RowKit
open Go.Vc Go.Wg
def YS (P:Program) (main:Bool) (l:P3) (K:G5->Prop):Nat->Nat->Goroutine->Prop:=fun m _ g=>∃s,K s/\Yc.Way P main l s m g
def okS (l:P3) (e:Event):Prop:=∃p∈l,e=⟨.cell p.1,false,false⟩
theorem tv0 {P:Program} {main:Bool} {l:P3} {K:G5->Prop}:HF P main (okS l) (YS P main l K) :=
 ⟨fun m d g g' es h1 h2 h3 h4 ⟨s,hk,hw⟩=>⟨s,hk,.inr ⟨(by
  rcases hw.status with⟨_,h⟩|⟨h,_⟩
  ·exact h
  ·rw[h2]at h;cases h),h1,g',es,h3,fun w _=>h4 w,hw⟩⟩⟩
def Sits (n:Nat) (b:Frame) (cs:List Frame) (e:Env) (dst:Option Nat) (todo:List Item) (me:Goroutine):Prop:=∀v,∃a,Rep n a (k3 e dst v)/\Go.Conc.served me v=G (b.at a todo) cs
theorem Sits.go {Z:Goroutine->World->Prop} {n:Nat} {b:Frame} {cs:List Frame} {e:Env} {dst:Option Nat} {todo:List Item} {me:Goroutine} (h:Sits n b cs e dst todo me) {v:Value} {w:World} (hz:ZA Z n b cs (k3 e dst v) todo w):Z (Go.Conc.served me v) w:=by
 obtain⟨a,ha,he⟩:=h v;rw[he];exact hz a ha
theorem ig0 {b:Frame} {a:Act} {k:List Item} {cs:List Frame} {ops:Array Oper} {i:Nat} {rest:List Nat} {o:Oper} (ho:ops[i]? =some o) (v:Value):Go.Conc.served (G (b.at a (.inRegion ops (i::rest)::k)) cs) v=G (b.at (a.put o.dst v) (.inRegion ops rest::k)) cs:=by
 have:(b.at a (.inRegion ops (i::rest)::k)).finish v=b.at (a.put o.dst v) (.inRegion ops rest::k):=by rw[Frame.finish_at,ho];rfl
 show({frame:=(b.at a (.inRegion ops (i::rest)::k)).finish v,callers:=cs,status:=.running,dying:=none}:Goroutine)=_;rw[this];rfl
section
variable {P:Program}{main:Bool}{st:P3}{K:G5->Prop}{ft n:Nat}{b:Frame}{cs:List Frame}{d:Nat}{e:Env}{k:List Item}{ops:Array Oper}{i:Nat}{l:List Oper}{dst:Option Nat}{ty:TypeId}{ps:String}{af:Array Edge}{T E:TypeId}{x y:Operand}
theorem G0.stay {p:Addr} {v:Value} {u:TypeDesc} (hk:b.kind≠.early) (hd:m4 n dst=true) (hp:(p,v)∈st) (hx:ev e x= .pointer (some p)) (hT:P.underlying T=some u) (hu:Q9 u=true)
  (h:G0 (YS P main st K) ft n b cs [] d (k3 e dst v) ops (i+1) l k):G0 (YS P main st K) (ft+1) n b cs [] d e ops i (⟨dst,.load T x,ty,ps,af,none⟩::l) k:=by
 intro hl a ha;obtain⟨ho,u5⟩:=C3 hl;obtain⟨s,hs,hw⟩:=h u5 _ (ha.put hd v);have h0:0<ft:=by
  rcases hw.status with⟨_,h⟩|⟨h,_⟩
  ·exact h
  ·cases h
 refine⟨s,hs,.inr ⟨h0,rfl,_,seen P b.fn #[⟨.cell p,false,false⟩],fun ev' he=>⟨(p,v),hp,?_⟩,fun w V1=>?_,hw⟩⟩
 ·have:=mem_seen he;simpa using this
 ·have hc:=V1 (p,v) hp;show stepG P main (G (b.at a (.inRegion ops (i::List.range' (i+1) l.length)::k)) cs) w=_;rw[stepG_value ho (by rw[ha.yielded];rfl) hk (by rw[ha.eval];exact Go.Vc.E0 hx hT hu hc),listed];have he:∀es,(isAgg T).events P w es=es:=fun es=>by
   cases u <;> simp[isAgg,go_sem,run_underlying hT]
  have hq:(execOp a.eval ⟨dst,.load T x,ty,ps,af,none⟩).events P w #[]=#[⟨.cell p,false,false⟩]:=by
   rw[ha.eval];simp[execOp,Instr.loadAt,hx,Instr.sureAddr,loadVar,Go.Vc.C9 hT,hu,hc,he]
  rw[hq]
theorem G0.D1 {c:Nat} {z:Value} {dd:ChanDir} (hk:b.kind≠.early) (hT:P.underlying T=some (.chan dd E)) (hz:(P.info? E).bind (·.zero)=some z) (hx:ev e x= .chan (some c))
  (hK:∀me,Sits n b cs e dst (.inRegion ops (List.range' (i+1) l.length)::k) me->K ⟨c,z,me⟩) (hd:m4 n dst=true):G0 (YS P main st K) (ft+1) n b cs [] d e ops i (⟨dst,.recv T x false,ty,ps,af,none⟩::l) k:=by
 intro hl a ha;obtain⟨ho,u5⟩:=C3 hl;refine⟨⟨c,z,G (b.at a (.inRegion ops (i::List.range' (i+1) l.length)::k)) cs⟩,hK _ fun v=>⟨a.put dst v,⟨(ha.put hd v).size,(ha.put hd v).defers,(ha.put hd v).get⟩,ig0 ho v⟩,.inl ⟨rfl,rfl,rfl,rfl,fun w=>?_⟩⟩;have hr:(execOp a.eval ⟨dst,.recv T x false,ty,ps,af,none⟩).run P w= .ok (.comm #[rcase c z] true (.recv false)) w:=by
  rw[ha.eval];obtain⟨inf,hi,hz'⟩:=Option.bind_eq_some_iff.1 hz;simp[execOp,hx,run_underlying hT,zeroValue,typeInfo,hi,hz',rcase,go_sem]
 show stepG P main (G (b.at a (.inRegion ops (i::List.range' (i+1) l.length)::k)) cs) w=_;have hq:(execOp a.eval ⟨dst,.recv T x false,ty,ps,af,none⟩).events P w #[]=#[]:=by
  rw[ha.eval];obtain⟨inf,hi,hz'⟩:=Option.bind_eq_some_iff.1 hz;simp[execOp,hx,run_underlying hT,zeroValue,typeInfo,hi,hz',go_sem]
 rw[stepG_comm ho (by rw[ha.yielded];rfl) hk hr,listed,hq,seen_none]
theorem qz0 {c:Nat} {v:Value} {a:Act} {rest:List Nat} (hk:b.kind≠.early) (ho:ops[i]? =some ⟨dst,.send x y,ty,ps,af,none⟩) (hx:a.eval x= .chan (some c)) (hy:a.eval y=v) (w:World) :
  stepG P main (G (b.at a (.inRegion ops (i::rest)::k)) cs) w= .comm (G (b.at a (.inRegion ops (i::rest)::k)) cs) #[scase c v (.tuple #[])] true .send w #[]:=by
 rw[stepG_comm (cases:=#[scase c v (.tuple #[])]) (blocking:=true) (shape:=.send) (w':=w) ho rfl hk (by simp[execOp,hx,hy,scase]),listed];have:(execOp a.eval ⟨dst,.send x y,ty,ps,af,none⟩).events P w #[]=#[]:=rfl;rw[this,seen_none]
theorem Gg0 {f:FuncId} {asx:Array Operand} {ats:Array TypeId} {a:Act} {rest:List Nat} (hk:b.kind≠.early) (ho:ops[i]? =some ⟨dst,.go {callee:=.value (.func f),args:=asx,argTypes:=ats},ty,ps,af,none⟩) (w:World) :
  stepG P main (G (b.at a (.inRegion ops (i::rest)::k)) cs) w= .spawn (G (b.at (a.put dst undef) (.inRegion ops rest::k)) cs) (born P (dcall f (asx.map a.eval))) w #[]:=by
 have ef:a.eval (.func f)= .func (.func f) #[] #[]:=rfl;have hr:(execOp a.eval ⟨dst,.go {callee:=.value (.func f),args:=asx,argTypes:=ats},ty,ps,af,none⟩).run P w= .ok (.spawn (dcall f (asx.map a.eval))) w:=by
  unfold execOp;simp[resolve,Deferred.ofValue,ef,dcall]
 have he:(execOp a.eval ⟨dst,.go {callee:=.value (.func f),args:=asx,argTypes:=ats},ty,ps,af,none⟩).events P w #[]=#[]:=by
  unfold execOp;simp[resolve,Deferred.ofValue,ef]
 rw[stepG_spawn ho rfl hk hr rfl,listed,he,seen_none]
end
section
variable {P:Program}{main:Bool}{b c:Frame}{a:Act}{k todo:List Item}{cs:List Frame}{w:World}{ops:Array Oper}{i:Nat}{rest:List Nat}{f:FuncId}{fn:Func}{args caps:Array Value}{ds:List Deferred}
theorem do0 {md:FrameMode} {body:Code} (hmd:md≠.run) (hd:a.defers={target:=.fn (.func f) caps,args:=args} :: ds) (hf:P.funcs[f]? =some fn) (L2:(fn.name== "runtime.NumGoroutine")=false) (hb:fn.body=some body) :
  stepG P main (G {b.at a todo with mode:=md} cs) w= .go (G ((baseD f).at {tmps:=(args++caps)++Array.replicate (fn.ntmps-(args++caps).size) undef,defers:=[]} [.code body]) ({b.at ⟨a.tmps,ds⟩ todo with mode:=md} :: cs)) w #[]:=by
 have h1:¬fn.name= "runtime.NumGoroutine":=by simpa using L2
 rw[<- enter_atD (args++caps) hf hb];cases md with
 |run=>exact absurd rfl hmd
 |returning=>simp[G,stepG,unwind,callDeferred,Frame.at,hd,invoke,callFunc,hf,h1,hb,GStep.after,seen_none]
 |panicking ch=>simp[G,stepG,unwind,callDeferred,Frame.at,hd,invoke,callFunc,hf,h1,hb,GStep.after,seen_none]
theorem jj0 {ρ:Operand->Value} {dst:Option Nat} {ty:TypeId} {ps:String} {af:Array Edge}:((execOp ρ ⟨dst,.call {callee:=.builtin .recover,args:=#[],argTypes:=#[]},ty,ps,af,none⟩).run P w= .ok .recover w)/\(execOp ρ ⟨dst,.call {callee:=.builtin .recover,args:=#[],argTypes:=#[]},ty,ps,af,none⟩).events P w #[]=#[]:=by
 constructor <;> simp[execOp,resolve,invoke,builtin]
theorem cv0 {dst:Option Nat} {ty:TypeId} {ps:String} {af:Array Edge} (ho:ops[i]? =some ⟨dst,.call {callee:=.builtin .recover,args:=#[],argTypes:=#[]},ty,ps,af,none⟩) (hk:b.kind= .deferred) (hr:b.roundOf=none) (hc:c.mode= .returning) :
  stepG P main (G (b.at a (.inRegion ops (i::rest)::k)) (c::cs)) w= .go (G (b.at (a.put dst .nilIface) (.inRegion ops rest::k)) (c::cs)) w #[]:=by
 have cy0:(b.at a (.inRegion ops (i::rest)::k)).finish .nilIface=b.at (a.put dst .nilIface) (.inRegion ops rest::k):=by rw[Frame.finish_at,ho];rfl
 rw[stepG_oper ho rfl,<- cy0];simp[stepG.apply,jj0,G,Frame.at,hk,tryRecover,hc,GStep.after,seen_none]
theorem ih0 {dst:Option Nat} {ty:TypeId} {ps:String} {af:Array Edge} {v:Value} {G4:List PanicEntry} (ho:ops[i]? =some ⟨dst,.call {callee:=.builtin .recover,args:=#[],argTypes:=#[]},ty,ps,af,none⟩) (hk:b.kind= .deferred) (hr:b.roundOf=none) (hc:c.mode= .panicking ({v,recovered:=false} :: G4)) :
  stepG P main (G (b.at a (.inRegion ops (i::rest)::k)) (c::cs)) w= .go (G (b.at (a.put dst v) (.inRegion ops rest::k)) ({c with mode:=.panicking ({v,recovered:=true} :: G4)} :: cs)) w #[]:=by
 have cy0:(b.at a (.inRegion ops (i::rest)::k)).finish v=b.at (a.put dst v) (.inRegion ops rest::k):=by rw[Frame.finish_at,ho];rfl
 rw[stepG_oper ho rfl,<- cy0];simp[stepG.apply,jj0,G,Frame.at,hk,tryRecover,hc,GStep.after,seen_none]
theorem ii0 {v v':Value} {G4:List PanicEntry} (hn:b.kind= .deferred) (hd:a.defers=[]) (hf:P.funcs[b.fn]? =some fn) (hr:(results fn a.tmps).run P w= .ok v w) (he:(results fn a.tmps).events P w #[]=#[])
  (hc:c.mode= .panicking ({v:=v',recovered:=true} :: G4)) (ho:G4.dropWhile (!·.goexit)=[]) :
  stepG P main (G {b.at a todo with mode:=.returning} (c::cs)) w= .go (G {c with mode:=.returning} cs) w #[]:=by
 simp[G,stepG,unwind,doReturn,Frame.at,hn,hd,hf,hr,he,hc,ho,seen,GStep.after]
theorem vx0 {dst:Option Nat} {ty:TypeId} {ps:String} {af:Array Edge} {x:Operand} (ho:ops[i]? =some ⟨dst,.defer {callee:=.value x,args:=#[],argTypes:=#[]},ty,ps,af,none⟩) (hk:b.kind≠.early) (hx:a.eval x= .func (.func f) #[] caps) :
  stepG P main (G (b.at a (.inRegion ops (i::rest)::k)) cs) w= .go (G (b.at (Act.put ⟨a.tmps,{target:=.fn (.func f) caps,args:=#[]} :: a.defers⟩ dst undef) (.inRegion ops rest::k)) cs) w #[]:=by
 have hr:(execOp a.eval ⟨dst,.defer {callee:=.value x,args:=#[],argTypes:=#[]},ty,ps,af,none⟩).run P w= .ok (.defer {target:=.fn (.func f) caps,args:=#[]}) w:=by
  simp[execOp,resolve,Deferred.ofValue,hx]
 have he:(execOp a.eval ⟨dst,.defer {callee:=.value x,args:=#[],argTypes:=#[]},ty,ps,af,none⟩).events P w #[]=#[]:=by
  simp[execOp,resolve,Deferred.ofValue,hx]
 have cy0:(b.at ⟨a.tmps,{target:=.fn (.func f) caps,args:=#[]} :: a.defers⟩ (.inRegion ops (i::rest)::k)).finish undef=b.at (Act.put ⟨a.tmps,{target:=.fn (.func f) caps,args:=#[]} :: a.defers⟩ dst undef) (.inRegion ops rest::k):=by rw[Frame.finish_at,ho];rfl
 have hk':(b.kind==CallKind.early)=false:=by simpa using hk
 rw[stepG_oper ho rfl,<- cy0];simp[stepG.apply,hr,he,G,Frame.at,hk',GStep.after,seen_none]
def g6 (P:Program):Frame:={fn:=P.funcs.size,tmps:=#[],todo:=[],defers:=[],mode:=.panicking [goexitEntry],kind:=.normal,roundOf:=none}
theorem Ch0 {body:Code} (hf:P.funcs[f]? =some fn) (L2:(fn.name== "runtime.NumGoroutine")=false) (hb:fn.body=some body) :
  stepG P main (born P (dcall f args)) w= .go (G ((baseD f).at {tmps:=args++Array.replicate (fn.ntmps-args.size) undef,defers:=[]} [.code body]) [g6 P]) w #[]:=by
 have h1:¬fn.name= "runtime.NumGoroutine":=by simpa using L2
 rw[<- enter_atD args hf hb];simp[born,G,stepG,unwind,callDeferred,dcall,invoke,callFunc,hf,h1,hb,GStep.after,seen_none,g6];exact⟨rfl,rfl,rfl,rfl⟩
theorem ra0 (hn:b.kind= .deferred) (hd:a.defers=[]) (hf:P.funcs[b.fn]? =some fn) {v:Value} (hr:(results fn a.tmps).run P w= .ok v w) (he:(results fn a.tmps).events P w #[]=#[]) :
  stepG P main (G {b.at a todo with mode:=.returning} [g6 P]) w= .go (G (g6 P) []) w #[]:=by
 simp[G,stepG,unwind,doReturn,Frame.at,hn,hd,hf,hr,he,seen,GStep.after,g6,goexitEntry]
theorem rc0:stepG P main (G (g6 P) []) w= .go {frame:=g6 P,callers:=[],status:=.finished,dying:=none} w #[]:=by
 simp[G,stepG,unwind,g6,goexitEntry,Frame.catches]
end
section
variable {P:Program}[Ctx P]{Z:Goroutine->World->Prop}{Q:Exit->Act->World->Prop}{ops:Array Oper}{b:Frame}{k:List Item}{cs:List Frame}{n:Nat}{e:Env}{w:World}
theorem ZA.J4 (hZ:Ctx.Zs P Z) {c:Operand} {x y:Code} (hc:ev e c= .bool true) (h:ZA Z n b cs e (.code x::k) w):ZA Z n b cs e (.code (.cond c x y)::k) w:=ZA.cond hZ (t:=true) hc h
theorem ZA.O5 (hZ:Ctx.Zs P Z) {c:Operand} {x y:Code} (hc:ev e c= .bool false) (h:ZA Z n b cs e (.code y::k) w):ZA Z n b cs e (.code (.cond c x y)::k) w:=ZA.cond hZ (t:=false) hc h
theorem ZA.W (hZ:Ctx.Zs P Z) (hb:b.kind≠.early) {c:Code} (h:Vy.W P n c (j9 (fun e' w'=>ZA Z n b cs e' k w') fun _ _ _=>False) e w):ZA Z n b cs e (.code c::k) w:=ZA.piece hZ hb h fun _ _ h=>h
theorem ZA.panics (hZ:Ctx.Zs P Z) (hb:b.kind≠.early) {c:Code} (h:Vy.W P n c (fun x e' w'=>∃ch,x= .panic ch/\∀a todo,Rep n a e'->Z (G {b.at a todo with mode:=.panicking ch} cs) w') e w):ZA Z n b cs e (.code c::k) w:=by
 intro a ha;refine h a ha Z hZ b k cs hb fun x a' w' hx=>?_;obtain⟨e',r,ch,rfl,hq⟩:=hx;exact fun todo=>hq a' todo r
theorem L.Gh0 {x:Operand} {ty:TypeId} {ps:String} {af:Array Edge} {rest:List Oper} {Q:Exit->Env->World->Prop} {t:TypeId} {v0:Value} (hx:ev e x= .iface t v0) (k:Q (.panic [{v:=.iface t v0,recovered:=false}]) e w):L P n ops Q (⟨none,.panic x,ty,ps,af,none⟩::rest) e w:=by
 refine L.Py0 rfl ⟨rfl,rfl,fun τ d ρ x' hs=>⟨Z8.refl _,x',#[],?_,hs,fun e he=>by simp at he⟩⟩ k;rw[Sem.runT_eq];have h1:(execOp (ev e) ⟨none,.panic x,ty,ps,af,none⟩).run P x'= .halt (.panic (.iface t v0)) x':=by simp[execOp,Instr.panic,hx]
 have h2:(execOp (ev e) ⟨none,.panic x,ty,ps,af,none⟩).events P x' #[]=#[]:=by simp[execOp,Instr.panic,hx]
 rw[h1,h2];rfl
end
section
variable {P:Program}{Z:Goroutine->World->Prop}{b:Frame}{cs:List Frame}{n:Nat}{e:Env}{w:World}
theorem ZA.leaves {fn:Func} {f:FuncId} (hb:b=base f) (hf:P.funcs[f]? =some fn) (hr:fn.results=#[]) (h:∀fr,fr.fn=f->Leaves P fr w (.returned (.tuple #[]))->Z (G fr cs) w):ZR Z n b cs e w:=by
 intro todo a ha;subst hb;refine h _ rfl ⟨rfl,ha.defers,rfl,fn,hf,P6 (fun w=>results_none hr _ P w) (fun w=>events_results_none hr _ _)⟩
end
section
variable {P:Program}[Ctx P]{Z:Goroutine->World->Prop}{ops:Array Oper}{b:Frame}{k:List Item}{cs:List Frame}{n:Nat}{e:Env}{w:World}
theorem ZA.call (hZ:Ctx.Zs P Z) (hb:b.kind≠.early) {i:Nat} {rest:List Nat} {o:Oper} {f:FuncId} {args:Array Value} (ho:ops[i]? =some o) (hg:o.guard=none) (hr:Does P (execOp (ev e) o) w (.enter f args) w)
  (h:∀a,Rep n a e->Z (G (Frame.enter P f args .normal) (b.at a (.inRegion ops (i::rest)::k)::cs)) w):ZA Z n b cs e (.inRegion ops (i::rest)::k) w:=by
 intro a ha;have hw:Region.wanted o (yielded ops a.tmps)=true:=by
  obtain⟨d,op,ty,ps,af,g⟩:=o;cases hg;rfl
 refine(Ctx.cl Z hZ).own _ _ rfl fun τ d=>?_;refine⟨_,W2 w τ d,w.drawn,⟨rfl,fun ρ x hx=>?_⟩,h a ha⟩;obtain⟨h1,x',es,h2,h3,h4⟩:=hr.go τ d ρ x hx;rw[Sem.runT_eq]at h2;obtain⟨h5,h6⟩:=Prod.mk.inj h2;refine⟨h1,x',seen P b.fn es,?_,h3,fun e he=>h4 e (mem_seen he)⟩;have h5':(execOp a.eval o).run P x= .ok (.enter f args) x':=by rw[ha.eval];exact h5
 rw[stepG_enter ho hw hb h5',listed,ha.eval,h6]
theorem ZA.home {i:Nat} {rest:List Nat} {o:Oper} (ho:ops[i]? =some o) (hd:m4 n o.dst=true) {v:Value} {w':World} {a:Act} (ha:Rep n a e) (h:ZA Z n b cs (k3 e o.dst v) (.inRegion ops rest::k) w'):Z (G ((b.at a (.inRegion ops (i::rest)::k)).finish v) cs) w':=by
 have cy0:(b.at a (.inRegion ops (i::rest)::k)).finish v=b.at (a.put o.dst v) (.inRegion ops rest::k):=by rw[Frame.finish_at,ho];rfl
 rw[cy0];exact h _ (ha.put hd v)
end
section
variable {P:Program}{ops:Array Oper}{b:Frame}{k:List Item}{cs:List Frame}{n:Nat}{e:Env}
theorem ZA.back {Z':Goroutine->World->Prop} {main:Bool} (hZ':Cl P main Z') {i:Nat} {rest:List Nat} {o:Oper} (ho:ops[i]? =some o) (hd:m4 n o.dst=true) {v:Value} {w':World} {fr:Frame} {a:Act} (ha:Rep n a e) (hl:Leaves P fr w' (.returned v))
  (h:ZA Z' n b cs (k3 e o.dst v) (.inRegion ops rest::k) w'):Z' (G fr (b.at a (.inRegion ops (i::rest)::k)::cs)) w':=by
 refine M9 hZ' hl ?_;have cy0:(b.at a (.inRegion ops (i::rest)::k)).finish v=b.at (a.put o.dst v) (.inRegion ops rest::k):=by rw[Frame.finish_at,ho];rfl
 rw[cy0];exact h _ (ha.put hd v)
end
section
variable {P:Program}[Ctx P]
end
section
variable {P:Program}[Ctx P]{Z:Goroutine->World->Prop}{ops:Array Oper}{b c:Frame}{k:List Item}{cs:List Frame}{n:Nat}{e:Env}{w:World}{i:Nat}{rest:List Nat}{dst:Option Nat}{ty:TypeId}{ps:String}{af:Array Edge}
theorem ZA.ij0 (hZ:Ctx.Zs P Z) (ho:ops[i]? =some ⟨dst,.call {callee:=.builtin .recover,args:=#[],argTypes:=#[]},ty,ps,af,none⟩) (hd:m4 n dst=true) (hk:b.kind= .deferred) (hr:b.roundOf=none) (hc:c.mode= .returning) (h:ZA Z n b (c::cs) (k3 e dst .nilIface) (.inRegion ops rest::k) w):ZA Z n b (c::cs) e (.inRegion ops (i::rest)::k) w :=
 fun _a ha=>(Ctx.cl Z hZ).ctl rfl rfl (fun _w=>cv0 ho hk hr hc) (h _ (ha.put hd _))
theorem ZA.xz0 (hZ:Ctx.Zs P Z) {v:Value} {G4:List PanicEntry} (ho:ops[i]? =some ⟨dst,.call {callee:=.builtin .recover,args:=#[],argTypes:=#[]},ty,ps,af,none⟩) (hd:m4 n dst=true) (hk:b.kind= .deferred) (hr:b.roundOf=none) (hc:c.mode= .panicking ({v,recovered:=false} :: G4)) (h:ZA Z n b ({c with mode:=.panicking ({v,recovered:=true} :: G4)} :: cs) (k3 e dst v) (.inRegion ops rest::k) w):ZA Z n b (c::cs) e (.inRegion ops (i::rest)::k) w :=
 fun _a ha=>(Ctx.cl Z hZ).ctl rfl rfl (fun _w=>ih0 ho hk hr hc) (h _ (ha.put hd _))
def Oq0 (c c':Frame):Prop:=(c.mode= .returning/\c'=c)\/∃v G4,G4.dropWhile (!·.goexit)=[]/\c'={c with mode:=.panicking ({v,recovered:=true} :: G4)}
theorem ZA.recover (hZ:Ctx.Zs P Z) (ho:ops[i]? =some ⟨dst,.call {callee:=.builtin .recover,args:=#[],argTypes:=#[]},ty,ps,af,none⟩) (hd:m4 n dst=true) (hk:b.kind= .deferred) (hr:b.roundOf=none) (hc:c.mode= .returning\/∃v G4,c.mode= .panicking ({v,recovered:=false} :: G4)/\G4.dropWhile (!·.goexit)=[])
  (h:∀c' v,Oq0 c c'->ZA Z n b (c'::cs) (k3 e dst v) (.inRegion ops rest::k) w):ZA Z n b (c::cs) e (.inRegion ops (i::rest)::k) w:=by
 rcases hc with hc|⟨v,G4,hc,ho'⟩
 ·exact ZA.ij0 hZ ho hd hk hr hc (h c _ (.inl ⟨hc,rfl⟩))
 ·exact ZA.xz0 hZ ho hd hk hr hc (h _ _ (.inr ⟨v,G4,ho',rfl⟩))
theorem ZA.region (hZ:Ctx.Zs P Z) {id:Nat} (h:ZA Z n b cs e (.inRegion ops (List.range ops.size)::k) w):ZA Z n b cs e (.code (.region id ops false)::k) w:=ZA.c hZ (fun _ _=>stepG_region) h
def ZD (Z:Goroutine->World->Prop) (n:Nat) (b:Frame) (cs:List Frame) (ds:List Deferred) (e:Env) (todo:List Item) (w:World):Prop:=∀a,dm0 n a e ds->Z (G (b.at a todo) cs) w
variable {ds:List Deferred}
theorem ZA.zd (h:ZD Z n b cs [] e k w):ZA Z n b cs e k w:=fun a ha=>h a (Xk0 ha) where Xk0 {n:Nat} {a:Act} {e:Env} (h:Rep n a e):dm0 n a e []:=⟨h.size,h.defers,h.get⟩
theorem ZD.ctl (hZ:Ctx.Zs P Z) {todo jh0:List Item} (hs:∀a w,stepG P (Ctx.main P) (G (b.at a todo) cs) w= .go (G (b.at a jh0) cs) w #[]) (h:ZD Z n b cs ds e jh0 w):ZD Z n b cs ds e todo w:=fun a ha=>(Ctx.cl Z hZ).ctl rfl rfl (hs a) (h a ha)
theorem ZD.seq (hZ:Ctx.Zs P Z) {x y:Code} (h:ZD Z n b cs ds e (.code x :: .code y::k) w):ZD Z n b cs ds e (.code (.seq x y)::k) w:=ZD.ctl hZ (fun _ _=>stepG_seq) h
theorem ZD.region (hZ:Ctx.Zs P Z) {id:Nat} (h:ZD Z n b cs ds e (.inRegion ops (List.range ops.size)::k) w):ZD Z n b cs ds e (.code (.region id ops false)::k) w:=ZD.ctl hZ (fun _ _=>stepG_region) h
theorem ZD.l3 (hZ:Ctx.Zs P Z) (h:ZD Z n b cs ds e k w):ZD Z n b cs ds e (.inRegion ops []::k) w:=ZD.ctl hZ (fun _ _=>stepG_region_end) h
variable {op:Op}{d:Nat}{v:Value}{w':World}
theorem ZD.va (hZ:Ctx.Zs P Z) (hb:b.kind≠.early) (ho:ops[i]? =some ⟨some d,op,ty,ps,af,none⟩) (hd:m4 n (some d)=true) (hr:Does P (execOp (ev e) ⟨some d,op,ty,ps,af,none⟩) w (.val v) w') (h:ZD Z n b cs ds (upd e d v) (.inRegion ops rest::k) w'):ZD Z n b cs ds e (.inRegion ops (i::rest)::k) w:=by
 intro a ha;refine U471 ?_;refine o8 (r:=.val v) (w':=w') (by rw[ha.eval];exact hr) ?_;exact h _ (ha.put hd v)
theorem ZD.st (hZ:Ctx.Zs P Z) (hb:b.kind≠.early) (ho:ops[i]? =some ⟨none,op,ty,ps,af,none⟩) (hr:Does P (execOp (ev e) ⟨none,op,ty,ps,af,none⟩) w .skip w') (h:ZD Z n b cs ds e (.inRegion ops rest::k) w'):ZD Z n b cs ds e (.inRegion ops (i::rest)::k) w:=by
 intro a ha;refine U471 ?_;refine o8 (r:=.skip) (w':=w') (by rw[ha.eval];exact hr) ?_;exact h _ ha
theorem ZD.defer (hZ:Ctx.Zs P Z) (hb:b.kind≠.early) {f:FuncId} {asx:Array Operand} {ats:Array TypeId} {vs:Array Value} (ho:ops[i]? =some ⟨none,.defer {callee:=.value (.func f),args:=asx,argTypes:=ats},ty,ps,af,none⟩) (hv:asx.map (ev e)=vs) (h:ZD Z n b cs (dcall f vs::ds) e (.inRegion ops rest::k) w):ZD Z n b cs ds e (.inRegion ops (i::rest)::k) w:=by
 intro a ha;refine(Ctx.cl Z hZ).ctl rfl rfl (fun w=>stepG_defer ho rfl hb rfl) ?_;rw[ha.eval,hv,ha.defers];exact h _ ⟨ha.size,rfl,ha.get⟩
theorem ZD.Rb0 (hZ:Ctx.Zs P Z) (hb:b.kind≠.early) {f:FuncId} {caps:Array Value} {x:Operand} (ho:ops[i]? =some ⟨none,.defer {callee:=.value x,args:=#[],argTypes:=#[]},ty,ps,af,none⟩) (hx:ev e x= .func (.func f) #[] caps) (h:ZD Z n b cs ({target:=.fn (.func f) caps,args:=#[]} :: ds) e (.inRegion ops rest::k) w):ZD Z n b cs ds e (.inRegion ops (i::rest)::k) w:=by
 intro a ha;refine(Ctx.cl Z hZ).ctl rfl rfl (fun w=>vx0 ho hb (by rw[ha.eval];exact hx)) ?_;rw[ha.defers];exact h _ ⟨ha.size,rfl,ha.get⟩
theorem ZD.call (hZ:Ctx.Zs P Z) (hb:b.kind≠.early) {f:FuncId} {args:Array Value} (ho:ops[i]? =some ⟨dst,op,ty,ps,af,none⟩) (hr:Does P (execOp (ev e) ⟨dst,op,ty,ps,af,none⟩) w (.enter f args) w)
  (h:∀a,dm0 n a e ds->Z (G (Frame.enter P f args .normal) (b.at a (.inRegion ops (i::rest)::k)::cs)) w):ZD Z n b cs ds e (.inRegion ops (i::rest)::k) w:=by
 intro a ha;refine(Ctx.cl Z hZ).own _ _ rfl fun τ d=>?_;refine⟨_,W2 w τ d,w.drawn,⟨rfl,fun ρ x hx=>?_⟩,h a ha⟩;obtain⟨h1,x',es,h2,h3,h4⟩:=hr.go τ d ρ x hx;rw[Sem.runT_eq]at h2;obtain⟨h5,h6⟩:=Prod.mk.inj h2;refine⟨h1,x',seen P b.fn es,?_,h3,fun e he=>h4 e (mem_seen he)⟩;have h5':(execOp a.eval ⟨dst,op,ty,ps,af,none⟩).run P x= .ok (.enter f args) x':=by rw[ha.eval];exact h5
 rw[stepG_enter ho rfl hb h5',listed,ha.eval,h6]
end
section
variable {P:Program}{Post:Value->World->Prop}{X:Gh}{h:Nat}{H:Hid}
theorem D4:@Ctx.Zs P (M1 P (h==0)) (Fin P Post X h):=⟨ax0 P Post X h,u9⟩
theorem An0:@Ctx.Zs P (M1 P (h==0)) (em0 P Post X h H):=⟨Kv0 H,fun _g _u hz hH=>u9 _ _ fun hv=>hz (gj0 hH hv) hH⟩
theorem kh0 (V:Nat->Prop) [DecidablePred V] {g:Goroutine} {U:World} (hf:em0 P Post X h (Y7 V U) g (E3 V U)):Fin P Post X h g U :=
 u9 _ _ fun hv=>by have:=hf (li0 hv);rwa [gi0]at this
theorem At.l3 {main:Bool} {ok:Event->Prop} {Y:Nat->Nat->Goroutine->Prop} {ft n d:Nat} {b:Frame} {cs:List Frame} {ds:List Deferred} {e:Env} {k:List Item} {ops:Array Oper} (hY:HF P main ok Y) (h:At Y ft n b cs ds d e k):At Y (ft+1) n b cs ds d e (.inRegion ops []::k):=At.c hY (fun _ _=>stepG_region_end) h
theorem j6 {n:Nat} (args:Array Value) (m:Nat) (hn:args.size+(m-args.size)=n):Rep n {tmps:=args++Array.replicate (m-args.size) undef,defers:=[]} (Vc.J7 args):=by
 have:=D7 args m hn;exact⟨this.size,this.defers,this.get⟩
theorem gm0 {n:Nat} {a:Act} {e:Env} (h:Rep n a e):dm0 n a e []:=⟨h.size,h.defers,h.get⟩
variable {n ft:Nat}{b:Frame}{cs:List Frame}{e:Env}{k:List Item}{ops:Array Oper}{i:Nat}{rest:List Nat}{ty:TypeId}{ps:String}{af:Array Edge}{x y:Operand}{v:Value}{w:World}
theorem ZA.more [Ctx P] {Z:Goroutine->World->Prop} (hZ:Ctx.Zs P Z) (hb:b.kind≠.early) {l:List Oper} (i:Nat) (hB:Kl0 n l=true) (h:L P n l.toArray (j9 (fun e' w'=>ZA Z n b cs e' k w') fun _ _ _=>False) (l.drop i) e w):ZA Z n b cs e (.inRegion l.toArray (List.range' i (l.drop i).length)::k) w:=by
 intro a ha;have h1:=h (fun o ho=>List.all_eq_true.1 hB o (List.mem_of_mem_drop ho)) a ha;have h2:=fd0 (l.drop i) i a w (fun j _=>by rw[List.getElem?_drop];simp) h1;have:=eg0 (Z:=Z) (b:=b) (k:=k) (cs:=cs) (suf:=[]) hZ hb (fun ch a' w' hx=>by obtain⟨_,_,hx⟩:=hx;exact hx.elim) (fun a' w' hx=>by
  obtain⟨e',r,hq⟩:=hx;exact ZA.l3 hZ hq a' r) _ a w h2
 rwa [List.append_nil]at this
theorem ZA.give {j:Nat} {s:G5} {st:P3} {K:G5->Prop} (hb:b.kind≠.early) (ho:ops[i]? =some ⟨none,.send x y,ty,ps,af,none⟩) (hx:ev e x= .chan (some s.ch)) (hy:ev e y=v) (hj:X.D1 j=some s) (hjh:j≠h) (g9:X.dn=0) (R2:X.stay h=st)
  (sx0:At (YS P (h==0) st K) ft n b cs [] 0 e (.inRegion ops rest::k)) (hsh:∀s',K s'->X.N7 s'.ch/\∀i s2,i≠j->X.D1 i=some s2->s2.ch≠s'.ch)
  (hF:∀s',K s'->Fin P Post (X.pass h j (some s')) j (Go.Conc.served s.me v) w):ZA (Fin P Post X h) n b cs e (.inRegion ops (i::rest)::k) w:=by
 intro a ha;have Gi0:a.put none undef=a:=rfl;obtain⟨s',hK,hw⟩:=sx0 a (gm0 ha);refine Fin.give (a₂:=G (b.at a (.inRegion ops (i::rest)::k)) cs) (s:=s) (j:=j) (nh:=ft) (v:=v) (z':=.tuple #[]) rfl hj hjh g9 (qz0 hb ho (by rw[ha.eval];exact hx) (by rw[ha.eval];exact hy)) (some s') (fun s2 e2=>by cases e2;exact hsh s' hK) ?_ (hF s' hK);unfold sy0;rw[ig0 ho,R2];exact hw
theorem ZA.lo0 {j:Nat} {s:G5} {gr:N4} (hb:b.kind≠.early) (ho:ops[i]? =some ⟨none,.send x y,ty,ps,af,none⟩) (hx:ev e x= .chan (some s.ch)) (hy:ev e y=v) (hj:X.D1 j=some s) (hjh:j≠h) (g9:X.dn=0) (hh:0<h) (J3:X.O2=some gr)
  (sx0:At (YLt P gr) ft n b cs [] 0 e (.inRegion ops rest::k)) (hF:Fin P Post (X.pass h j none) j (Go.Conc.served s.me v) w):ZA (Fin P Post X h) n b cs e (.inRegion ops (i::rest)::k) w:=by
 intro a ha;refine Fin.give (a₂:=G (b.at a (.inRegion ops (i::rest)::k)) cs) (s:=s) (j:=j) (nh:=ft) (v:=v) (z':=.tuple #[]) rfl hj hjh g9 (qz0 hb ho (by rw[ha.eval];exact hx) (by rw[ha.eval];exact hy)) none (fun s2 e2=>by cases e2) ?_ hF;unfold sy0;rw[ig0 ho];exact⟨hh,gr,J3,sx0 a (gm0 ha)⟩
theorem ZA.spawn {f:FuncId} {asx:Array Operand} {ats:Array TypeId} {st:P3} {K:G5->Prop} {vs:Array Value} {gr:N4} (hb:b.kind≠.early) (ho:ops[i]? =some ⟨none,.go {callee:=.value (.func f),args:=asx,argTypes:=ats},ty,ps,af,none⟩) (hvs:asx.map (ev e)=vs) (g9:X.dn=0) (hp:X.pend=1) (J3:X.O2=some gr) (R2:X.stay 0=st)
  (sx0:At (YS P true st K) ft n b cs [] 0 e (.inRegion ops rest::k)) (hsh:∀s',K s'->X.N7 s'.ch/\∀i s2,X.D1 i=some s2->s2.ch≠s'.ch)
  (hF:∀s',K s'->Fin P Post (X.hire s') X.n (born P (dcall f vs)) w):ZA (Fin P Post X 0) n b cs e (.inRegion ops (i::rest)::k) w:=by
 intro a ha;have Gi0:a.put none undef=a:=rfl;obtain⟨s',hK,hw⟩:=sx0 a (gm0 ha);refine Fin.spawn (g':=G (b.at (a.put none undef) (.inRegion ops rest::k)) cs) (child:=born P (dcall f vs)) (s:=s') (nh:=ft) (G:=gr) rfl g9 hp J3 (fun w=>?_) (hsh s' hK).1 (hsh s' hK).2 (by rw[R2];exact hw) (hF s' hK);rw[Gg0 hb ho,ha.eval,hvs]
theorem AtR.saved {Y:Nat->Nat->Goroutine->Prop} {main:Bool} {ok:Event->Prop} (hY:HF P main ok Y) {c c':Frame} {fn:Func} {todo:List Item} {d:Nat} (hs:Oq0 c c') (hn:b.kind= .deferred) (hf:P.funcs[b.fn]? =some fn) (hr:fn.results=#[]) (h:Y ft d (G {c with mode:=.returning} cs)):AtR Y (ft+1) n b (c'::cs) [] d e todo:=by
 intro a ha;rcases hs with⟨hc,rfl⟩|⟨v,G4,ho,rfl⟩
 ·have:({c' with mode:=.returning}:Frame)=c':=by rw[<- hc]
  rw[this]at h;exact hY.c rfl rfl (fun w=>stepG_leave_deferred hn ha.defers hf (results_none hr _ P w) (events_results_none hr _ _) hc) h
 ·refine hY.c rfl rfl (fun w=>?_) h;exact ii0 hn ha.defers hf (results_none hr _ P w) (events_results_none hr _ _) rfl ho
end
end Go.Vy
end
section
namespace Go.Vy.Sc
open Go Go.Conc Go.Yc Go.RowKit Go.Proofs Go.Proofs.YtnifpkopeheodaaGreat Tryz
open Go.Vc Go.Wg
structure lp0 (cs:List Frame) (cb:Nat) (df:Value) (me:Goroutine):Prop where
 yes:∀(C0:Ctx prog) (Z:Goroutine->World->Prop),@Ctx.Zs prog C0 Z->∀(u:World) (K:World->Prop),Bv0 prog C0 df u K->(∀u2 fr,K u2->fr.fn=83->Leaves prog fr u2 (.returned (.tuple #[]))->Z (G fr cs) u2)->Z (Go.Conc.served me (.bool true)) u
 no:∀Z,@Ctx.Zs prog (M1 prog false) Z->∀(u:World) (S:Nat->Prop) (B:Nat) (w0:World) (Bs:Nat) (R:Rn) (i:Nat) (c:CB),Rg S B w0 u Bs R->R.cl[i]? =some c->c.cb=cb->(∀u2 fr ch,Rg S B w0 u2 Bs {R with cl:=R.cl.set i {c with st:=true}}->fr.fn=83->bd0 ch->Leaves prog fr u2 (.panicked ch)->Z (G fr cs) u2)->Z (Go.Conc.served me (.bool false)) u
theorem gn0 {f:FuncId} {fn:Func} {n:Nat} {a:Act} {e:Env} {todo:List Item} {ch:List PanicEntry} {w:World} (hf:prog.funcs[f]? =some fn) (ha:Rep n a e):Leaves prog {(base f).at a todo with mode:=.panicking ch} w (.panicked ch) :=
 ⟨rfl,ha.defers,by simp[Frame.catches,Frame.at,base,hf]⟩
theorem Xl0:prog.built 197 []=some #[]:=by kernel_rfl
theorem S5 {l:List CB} {i:Nat} {c c':CB} (h:l[i]? =some c):(l.set i c')[i]? =some c':=by
 have:=(List.getElem?_eq_some_iff.1 h).1;simp[this]
theorem Lg0 {S:Nat->Prop} {B:Nat} {w0 w:World} {Bs:Nat} {R:Rn} {i:Nat} {c1 c2 c3 c4:CB} (h:Rg S B w0 w Bs {R with cl:=(((R.cl.set i c1).set i c2).set i c3).set i c4}):Rg S B w0 w Bs {R with cl:=R.cl.set i c4}:=by
 simpa using h
set_option maxRecDepth 20000 in
theorem step_fin {Post:Value->World->Prop} {X:Gh} {g:Nat} {S:Nat->Prop} {B:Nat} {w0:World} {Bs:Nat} {R:Rn} {w:World} {i:Nat} {c:CB} {s:Stp} {rf df:Value} {cs:List Frame} {z0:Value} {me0:Goroutine}
  (hg:Rg S B w0 w Bs R) (hc:R.cl[i]? =some c) (dh1:c.st=false) (hrf:rf.cells=#[rf]/\rf.oneCell'=true) (hdf:df.cells=#[df]/\df.oneCell'=true)
  (N8:g≠0) (hX0:X.D1 0=some ⟨R.yb,z0,me0⟩) (g9:X.dn=0) (R2:X.stay g=[(⟨c.cb,2,none⟩,.chan (some c.rc))]) (hsh:X.N7 c.rc/\∀i s2,i≠0->X.D1 i=some s2->s2.ch≠c.rc)
  (G7:∀w' me,Rg S B w0 w' Bs {R with cl:=R.cl.set i {c with sp:=s,rf:=rf,df:=df,wt:=true}}->lp0 cs c.cb df me->Fin prog Post (X.pass g 0 (some ⟨c.rc,.bool false,me⟩)) 0 (Go.Conc.served me0 (.i (i:Int))) w') :
  Fin prog Post X g (G (Frame.enter prog 83 #[.p c.cb,jf0 s,rf,df] .normal) cs) w:=by
 letI:Ctx prog:=M1 prog (g==0);rw[enter_at _ func83 rfl];refine(?_:ZA (Fin prog Post X g) 63 (base 83) cs (Vc.J7 #[.p c.cb,jf0 s,rf,df]) [.code (Tryz.f83.body.getD .skip)] w) _ (j6 _ _ rfl);have hZ:Ctx.Zs prog (Fin prog Post X g):=D4;have hb:=Y0 83;refine U1 ?_;refine L.box (cs:=#[.i s.kind,.i s.obj,.i s.num]) rfl rfl (fun w b5 F5=>?_);have hg:=hg.A0 F5.below;have P2:=F5.blk;refine U19 ?_;refine U542 ?_;refine U118 ?_;refine U1 ?_;refine U42 ?_;refine L.va (E0 rfl underlying4 rfl ((hg.m.blk i c hc).F0 10 (v:=.bool c.st) rfl)) ?_;refine U0 ?_;refine ZA.O5 hZ (rb dh1) ?_;refine ZA.skip hZ ?_;refine U48 ?_;refine L.va (K3 rfl) ?_;refine L.va (K3 rfl) ?_;refine L.va (K3 rfl) ?_;refine L.va (E1 (cs:=[.i s.kind,.i s.obj,.i s.num]) rfl underlying47 rfl tt0 rfl (P2.N5 rfl)) ?_;refine L.va ci0 ?_;refine L.va ci0 ?_;refine L.va (u1 rfl) ?_;refine L.va (K0 rfl underlying149 rfl tt0 (by decide)) ?_;refine L.stC (i:=i) (o:=3) (vs:=[.i s.kind,.i s.obj,.i s.num]) hg {c with sp:=s} hc rfl rfl rfl rfl tt0 rfl rfl (by decide) rfl (fun w hg J3=>?_)
 try clear J3
 refine L.va (u1 rfl) ?_;refine L.va (K0 rfl underlying149 rfl Qn0 (by decide)) ?_;refine L.stC (i:=i) (o:=6) (vs:=[rf]) hg {{c with sp:=s} with rf:=rf} (S5 hc) rfl rfl rfl (congrArg Array.toList hrf.1) Qn0 rfl (by simp[hrf.2]) (by decide) rfl (fun w hg J3=>?_)
 try clear J3
 refine L.va (u1 rfl) ?_;refine L.va (K0 rfl underlying149 rfl sz1 (by decide)) ?_;refine L.stC (i:=i) (o:=7) (vs:=[df]) hg {{{c with sp:=s} with rf:=rf} with df:=df} (S5 (S5 hc)) rfl rfl rfl (congrArg Array.toList hdf.1) sz1 rfl (by simp[hdf.2]) (by decide) rfl (fun w hg J3=>?_)
 try clear J3
 refine U97 ?_;refine L.stC (i:=i) (o:=9) (vs:=[.bool true]) hg {{{{c with sp:=s} with rf:=rf} with df:=df} with wt:=true} (S5 (S5 (S5 hc))) rfl rfl rfl rfl sz4 rfl rfl (by decide) rfl (fun w hg J3=>?_)
 try clear J3
 refine U19 ?_;refine ZA.dl0 hZ hb 11 (fun w'=>Below w.heap.size w w') (by kernel_rfl) (by kernel_rfl) (by kernel_rfl) (by kernel_rfl) (Below.refl w.heap.size w).drew ?_;refine U238 ?_;refine D.va (fun w' V1=>(K0 rfl underlying149 rfl Fv0 (by decide))) ?_;refine D.va (fun w' V1=>(E0 rfl underlying146 rfl (((hg.m.blk i _ (S5 (S5 (S5 (S5 hc))))).A0 V1).F0 1 (v:=.p R.rb) rfl))) ?_;refine D.va (fun w' V1=>(u1 rfl)) ?_;refine U128 ?_;refine U238 ?_;refine D.va (fun w' V1=>(K0 rfl underlying149 rfl sz3 (by decide))) ?_;refine D.va (fun w' V1=>(E0 rfl underlying3 rfl (((hg.m.blk i _ (S5 (S5 (S5 (S5 hc))))).A0 V1).F0 0 (v:=.i (i:Int)) rfl))) ?_;refine U120 ?_;intro w j2 hg;clear j2;refine ZA.give (i:=11) (rest:=[]) (s:=⟨R.yb,z0,me0⟩) (st:=[(⟨c.cb,2,none⟩,.chan (some c.rc))]) (K:=fun s=>s.ch=c.rc/\s.z= .bool false/\lp0 cs c.cb df s.me) (ft:=60) hb rfl rfl rfl hX0 N8.symm g9 R2 ?_ ?_ ?_
 ·have di1:(g==0)=false:=by simpa using N8
  rw[di1];have hY:=tv0 (P:=prog) (main:=false) (l:=[((⟨c.cb,2,none⟩:Addr),Value.chan (some c.rc))]) (K:=fun s=>s.ch=c.rc/\s.z= .bool false/\lp0 cs c.cb df s.me);refine At.l3 hY ?_;refine At.seq hY ?_;refine At.seq hY ?_;refine At.region hY ?_;refine G0.val hY hb rfl (v:=.p c.cb) (I0 rfl) ?_;refine G0.val hY hb rfl (G3 rfl) ?_;refine G0.val hY hb rfl (lj0 rfl underlying149 rfl Ob0 (by decide)) ?_;refine G0.stay (v:=.chan (some c.rc)) hb rfl (by simp) rfl underlying147 rfl ?_;refine G0.D1 (E:=4) (z:=.bool false) hb underlying147 zr4 rfl (fun me hs=>⟨rfl,rfl,⟨?_,?_⟩⟩) rfl
  ·intro C0 Z hZ w K hdo hK;refine hs.go ?_;letI:Ctx prog:=C0;refine ZA.more hZ hb 5 rfl ?_;show L _ _ _ _ _ _ _;refine U25 ?_;refine U1 ?_;refine U164 ?_;refine U118 ?_;rcases hdo with⟨h1,h2⟩|⟨f,caps,⟨h1,fn,hf,hbd,hnm⟩,X4⟩
   all_goals subst h1
   ·refine ZA.W hZ hb ?_;refine U166 ?_;refine L.va (cj0 (v:=.nilFunc) (b:=false) rfl (.inl ⟨rfl,rfl⟩) rfl underlying1 ⟨_,_,_,rfl⟩) ?_;refine U232 ?_;refine ZA.skip hZ ?_;exact U426
   ·refine ZA.W hZ hb ?_;refine U166 ?_;refine L.va (cj0 (v:=.func (.func f) #[] caps) (b:=true) rfl (.inr ⟨_,_,_,rfl,rfl⟩) rfl underlying1 ⟨_,_,_,rfl⟩) ?_;refine U273 ?_;refine U92 ?_;refine L.va ci0 ?_;refine L.call (gb0 rfl hf hbd hnm) X4 ?_;rintro _ w h2;refine U0 ?_;exact U426
  ·intro Z hZ w S B w0 Bs R i c2 hg hc hcb hK;refine hs.go ?_;letI:Ctx prog:=M1 prog false
   skip
   refine ZA.more hZ hb 5 rfl ?_;show L _ _ _ _ _ _ _;refine U25 ?_;refine U1 ?_;refine U164 ?_;refine U273 ?_;refine U1 ?_;refine U42 ?_;refine L.stC (i:=i) (o:=10) (vs:=[.bool true]) hg {c2 with st:=true} hc rfl (by rw[hcb];rfl) rfl rfl sz4 rfl rfl (by decide) rfl (fun w hg J3=>?_)
   try clear J3
   refine U0 ?_;refine ZA.panics hZ hb ?_;refine W.region rfl ?_;refine L.va (N3 (parts:=[]) rfl Xl0) ?_;refine L.va (K8 (v:=.agg #[]) rfl underlying197 rfl) ?_;refine L.Gh0 rfl ⟨_,rfl,fun a todo ha=>?_⟩;exact hK _ _ _ hg rfl ⟨_,_,rfl,rfl⟩ (gn0 func83 ha)
 ·rintro s2 ⟨h1,_,_⟩;rw[h1];exact hsh
 ·rintro⟨ch,z,me⟩ ⟨h1,h2,h3⟩;cases h1;cases h2;exact G7 _ me (Lg0 hg) h3
section
attribute [local irreducible] KK
abbrev bv0 (a b:Nat):Array Value:=#[.p a,.p b]
theorem tw0 (gr:N4) {n:Nat} {a:Act} {todo:List Item} (hd:a.defers=[dcall 68 #[.pointer (some ⟨gr.blk,gr.off,none⟩)]]):∃m,Lt prog gr m 0 (G {(baseD 106).at a todo with mode:=.returning} [g6 prog]):=by
 have hq:QuitsD prog 2 0 (G {(baseD 106).at ⟨a.tmps,[]⟩ todo with mode:=.returning} [g6 prog]):=by
  refine .inr ⟨rfl,_,#[],fun e he=>by simp at he,fun w=>ra0 (fn:=Tryz.f106) rfl rfl func106 (results_none rfl _ _ w) (events_results_none rfl _ _),?_⟩;refine .inr ⟨rfl,_,#[],fun e he=>by simp at he,fun w=>rc0,?_⟩;exact⟨rfl,rfl⟩
 obtain⟨m,hm⟩:=Ld0 gr (c:={(baseD 106).at ⟨a.tmps,[]⟩ todo with mode:=.returning}) rfl hq;refine⟨m+1,?_⟩;exact(A3 prog gr).c rfl rfl (fun w=>do0 (f:=68) (fn:=Tryz.f68) (caps:=#[]) (args:=#[.pointer (some ⟨gr.blk,gr.off,none⟩)]) (by simp) hd func68 Wl0 rfl) hm
theorem Xm0:prog.built 197 []=some #[]:=by kernel_rfl
set_option maxRecDepth 20000 in
theorem ya0 {Z:Goroutine->World->Prop} (hZ:@Ctx.Zs prog (M1 prog false) Z) {rb0 i:Nat} {c:CB} {w0:World} (hC:I1 w0 c.cb (c.cells rb0 i) 149 (0,3)) (R2:c.st=true) {s:Stp} {rf df:Value} {cs:List Frame}
  (hK:∀w' fr ch,Below w0.heap.size w0 w'->fr.fn=83->bd0 ch->Leaves prog fr w' (.panicked ch)->Z (G fr cs) w'):Z (G (Frame.enter prog 83 #[.p c.cb,jf0 s,rf,df] .normal) cs) w0:=by
 letI:Ctx prog:=M1 prog false;rw[enter_at _ func83 rfl];refine(?_:ZA Z 63 (base 83) cs (Vc.J7 #[.p c.cb,jf0 s,rf,df]) [.code (Tryz.f83.body.getD .skip)] w0) _ (j6 _ _ rfl);have hb:=Y0 83;have hb0:Below w0.heap.size w0 w0:=Below.refl _ _;refine U1 ?_;refine L.box (cs:=#[.i s.kind,.i s.obj,.i s.num]) rfl rfl (fun w b5 F5=>?_);have hb0:=O0 hb0 F5.below;have hC:=hC.A0 F5.below;refine U19 ?_;refine U542 ?_;refine U118 ?_;refine U1 ?_;refine U42 ?_;refine L.va (E0 rfl underlying4 rfl (hC.F0 10 (v:=.bool c.st) rfl)) ?_;refine U0 ?_;refine ZA.J4 hZ (rb R2) ?_;refine ZA.panics hZ hb ?_;refine W.region rfl ?_;refine L.va (N3 (parts:=[]) rfl Xm0) ?_;refine L.va (K8 (v:=.agg #[]) rfl underlying197 rfl) ?_;refine L.Gh0 rfl ⟨_,rfl,fun a todo ha=>?_⟩;exact hK _ _ _ hb0 rfl ⟨_,_,rfl,rfl⟩ (gn0 func83 ha)
set_option maxRecDepth 20000 in
theorem Gj0 {Post:Value->World->Prop} {X:Gh} {g:Nat} {S:Nat->Prop} {B:Nat} {w0:World} {Bs:Nat} {R:Rn} {w:World} {i:Nat} {c:CB} {z0:Value} {me0:Goroutine} {T6 A6:Nat} {en:Bool} {a45:Act} {w7:List Item} {md:FrameMode}
  (hg:Rg S B w0 w Bs R) (hc:R.cl[i]? =some c) (R2:c.st=true) (hA:I1 w T6 #[.p c.cb] 91 (0,0)) (hE:I1 w A6 #[.bool en] 4 (0,0)) (N8:0<g) (hX0:X.D1 0=some ⟨R.yb,z0,me0⟩) (g9:X.dn=0) (lq0:X.O2=some ⟨R.rb,8⟩)
  (hmd:md= .returning\/∃v G4,md= .panicking ({v,recovered:=false} :: G4)/\G4.dropWhile (!·.goexit)=[]) (tx0:a45.defers=[dcall 68 #[.pointer (some ⟨R.rb,8,none⟩)]])
  (G7:∀w',Rg S B w0 w' Bs {R with ends:=R.ends.set i 0,cl:=R.cl.set i {c with wt:=false}}->Fin prog Post (X.pass g 0 none) 0 (Go.Conc.served me0 (.i (i:Int))) w') :
  Fin prog Post X g (G ((baseD 113).at {tmps:=((#[]:Array Value)++bv0 T6 A6)++Array.replicate (Tryz.f113.ntmps-((#[]:Array Value)++bv0 T6 A6).size) undef,defers:=[]} [.code (Tryz.f113.body.getD .skip)]) [{(baseD 106).at a45 w7 with mode:=md},g6 prog]) w:=by
 letI:Ctx prog:=M1 prog (g==0);refine(?_:ZA (Fin prog Post X g) 63 (baseD 113) [{(baseD 106).at a45 w7 with mode:=md},g6 prog] (Vc.J7 ((#[]:Array Value)++bv0 T6 A6)) [.code (Tryz.f113.body.getD .skip)] w) _ (j6 _ _ rfl);refine U281 ?_;intro hZ hb;have hi:i<R.m:=Nat.lt_of_lt_of_le (List.getElem?_eq_some_iff.1 hc).1 hg.m.lcl;refine ZA.seq hZ ?_;refine U254 ?_;intro c45 v hsv;refine U108 ?_;refine U284 ?_;refine U227 ?_;refine U25 ?_;refine ZA.J4 hZ (rb R2) ?_;refine U121 ?_;intro hR hC;refine U216 ?_;refine U223 ?_;refine U209 ?_;refine U138 ?_;refine U213 ?_;refine D.nil (fun w j2=>?_);have hA:=hA.A0 j2;have hE:=hE.A0 j2;have hg:=hg.A0 j2;have hR:=hR.A0 j2;have hC:=hC.A0 j2;clear j2;have neA:=I1.ne hA hg.m.ends (by decide);refine U256 ?_;intro neE w hg J3;have hA:=hA.other J3 neA;clear neA neE J3;have hc:(Rn.cl {R with ends:=R.ends.set i 0})[i]? =some c:=hc;refine L.nil ?_
 try clear hR
 try clear hC
 refine U279 ?_;refine U139 ?_;refine U97 ?_;refine U218 ?_;intro neA w hg J3;have hA:=hA.other J3 neA;refine U215 ?_;refine U137 ?_;refine U214 ?_;refine U128 ?_;refine U220 ?_;refine U120 ?_;intro w j2 hg;clear j2;obtain⟨m,hm⟩:=tw0 ⟨R.rb,8⟩ (n:=0) (a:=a45) (todo:=w7) tx0;refine ZA.lo0 (i:=11) (rest:=[]) (s:=⟨R.yb,z0,me0⟩) (gr:=⟨R.rb,8⟩) (ft:=m+3) hb rfl rfl rfl hX0 (Nat.ne_of_lt N8) g9 N8 lq0 ?_ ?_
 ·refine At.l3 (A3 _ _) ?_;refine At.done (A3 _ _) (fun _=>?_);exact AtR.saved (A3 _ _) hsv rfl func113 rfl hm
 ·exact G7 _ hg
set_option maxRecDepth 20000 in
theorem Gk0 {Post:Value->World->Prop} {X:Gh} {g:Nat} {S:Nat->Prop} {B:Nat} {w0:World} {Bs:Nat} {R:Rn} {w:World} {i:Nat} {c:CB} {z0:Value} {me0:Goroutine} {T6 A6:Nat} {en:Bool} {a45:Act} {w7:List Item} {md:FrameMode}
  (hg:Rg S B w0 w Bs R) (hc:R.cl[i]? =some c) (R2:c.st=false) (hA:I1 w T6 #[.p c.cb] 91 (0,0)) (hE:I1 w A6 #[.bool true] 4 (0,0)) (N8:0<g) (hX0:X.D1 0=some ⟨R.yb,z0,me0⟩) (g9:X.dn=0) (lq0:X.O2=some ⟨R.rb,8⟩)
  (hmd:md= .returning\/∃v G4,md= .panicking ({v,recovered:=false} :: G4)/\G4.dropWhile (!·.goexit)=[]) (tx0:a45.defers=[dcall 68 #[.pointer (some ⟨R.rb,8,none⟩)]])
  (G7:∀w',Rg S B w0 w' Bs {R with ends:=R.ends.set i 1,cl:=R.cl.set i {c with wt:=false}}->Fin prog Post (X.pass g 0 none) 0 (Go.Conc.served me0 (.i (i:Int))) w') :
  Fin prog Post X g (G ((baseD 113).at {tmps:=((#[]:Array Value)++bv0 T6 A6)++Array.replicate (Tryz.f113.ntmps-((#[]:Array Value)++bv0 T6 A6).size) undef,defers:=[]} [.code (Tryz.f113.body.getD .skip)]) [{(baseD 106).at a45 w7 with mode:=md},g6 prog]) w:=by
 letI:Ctx prog:=M1 prog (g==0);refine(?_:ZA (Fin prog Post X g) 63 (baseD 113) [{(baseD 106).at a45 w7 with mode:=md},g6 prog] (Vc.J7 ((#[]:Array Value)++bv0 T6 A6)) [.code (Tryz.f113.body.getD .skip)] w) _ (j6 _ _ rfl);refine U281 ?_;intro hZ hb;have hi:i<R.m:=Nat.lt_of_lt_of_le (List.getElem?_eq_some_iff.1 hc).1 hg.m.lcl;refine ZA.seq hZ ?_;refine U254 ?_;intro c45 v hsv;refine U108 ?_;refine U284 ?_;refine U227 ?_;refine U25 ?_;refine ZA.O5 hZ (rb R2) ?_;refine U1 ?_;refine L.va (E0 rfl underlying4 rfl (hE.F0 0 (v:=.bool true) rfl)) ?_;refine U25 ?_;refine ZA.J4 hZ rfl ?_;refine U121 ?_;intro hR hC;refine U216 ?_;refine U223 ?_;refine U209 ?_;refine U138 ?_;refine U213 ?_;refine D.nil (fun w j2=>?_);have hA:=hA.A0 j2;have hE:=hE.A0 j2;have hg:=hg.A0 j2;have hR:=hR.A0 j2;have hC:=hC.A0 j2;clear j2;have neA:=I1.ne hA hg.m.ends (by decide);refine U256 ?_;intro neE w hg J3;have hA:=hA.other J3 neA;clear neA neE J3;have hc:(Rn.cl {R with ends:=R.ends.set i 1})[i]? =some c:=hc;refine L.nil ?_
 try clear hR
 try clear hC
 refine U279 ?_;refine U139 ?_;refine U97 ?_;refine U218 ?_;intro neA w hg J3;have hA:=hA.other J3 neA;refine U215 ?_;refine U137 ?_;refine U214 ?_;refine U128 ?_;refine U220 ?_;refine U120 ?_;intro w j2 hg;clear j2;obtain⟨m,hm⟩:=tw0 ⟨R.rb,8⟩ (n:=0) (a:=a45) (todo:=w7) tx0;refine ZA.lo0 (i:=11) (rest:=[]) (s:=⟨R.yb,z0,me0⟩) (gr:=⟨R.rb,8⟩) (ft:=m+3) hb rfl rfl rfl hX0 (Nat.ne_of_lt N8) g9 N8 lq0 ?_ ?_
 ·refine At.l3 (A3 _ _) ?_;refine At.done (A3 _ _) (fun _=>?_);exact AtR.saved (A3 _ _) hsv rfl func113 rfl hm
 ·exact G7 _ hg
set_option maxRecDepth 20000 in
theorem Gl0 {Post:Value->World->Prop} {X:Gh} {g:Nat} {S:Nat->Prop} {B:Nat} {w0:World} {Bs:Nat} {R:Rn} {w:World} {i:Nat} {c:CB} {z0:Value} {me0:Goroutine} {T6 A6:Nat} {en:Bool} {a45:Act} {w7:List Item} {md:FrameMode}
  (hg:Rg S B w0 w Bs R) (hc:R.cl[i]? =some c) (R2:c.st=false) (hA:I1 w T6 #[.p c.cb] 91 (0,0)) (hE:I1 w A6 #[.bool false] 4 (0,0)) (N8:0<g) (hX0:X.D1 0=some ⟨R.yb,z0,me0⟩) (g9:X.dn=0) (lq0:X.O2=some ⟨R.rb,8⟩)
  (hmd:md= .returning\/∃v G4,md= .panicking ({v,recovered:=false} :: G4)/\G4.dropWhile (!·.goexit)=[]) (tx0:a45.defers=[dcall 68 #[.pointer (some ⟨R.rb,8,none⟩)]])
  (G7:∀w',Rg S B w0 w' Bs {R with ends:=R.ends.set i 2,cl:=R.cl.set i {c with wt:=false}}->Fin prog Post (X.pass g 0 none) 0 (Go.Conc.served me0 (.i (i:Int))) w') :
  Fin prog Post X g (G ((baseD 113).at {tmps:=((#[]:Array Value)++bv0 T6 A6)++Array.replicate (Tryz.f113.ntmps-((#[]:Array Value)++bv0 T6 A6).size) undef,defers:=[]} [.code (Tryz.f113.body.getD .skip)]) [{(baseD 106).at a45 w7 with mode:=md},g6 prog]) w:=by
 letI:Ctx prog:=M1 prog (g==0);refine(?_:ZA (Fin prog Post X g) 63 (baseD 113) [{(baseD 106).at a45 w7 with mode:=md},g6 prog] (Vc.J7 ((#[]:Array Value)++bv0 T6 A6)) [.code (Tryz.f113.body.getD .skip)] w) _ (j6 _ _ rfl);refine U281 ?_;intro hZ hb;have hi:i<R.m:=Nat.lt_of_lt_of_le (List.getElem?_eq_some_iff.1 hc).1 hg.m.lcl;refine ZA.seq hZ ?_;refine U254 ?_;intro c45 v hsv;refine U108 ?_;refine U284 ?_;refine U227 ?_;refine U25 ?_;refine ZA.O5 hZ (rb R2) ?_;refine U1 ?_;refine L.va (E0 rfl underlying4 rfl (hE.F0 0 (v:=.bool false) rfl)) ?_;refine U25 ?_;refine ZA.O5 hZ rfl ?_;refine U121 ?_;intro hR hC;refine U216 ?_;refine U223 ?_;refine U209 ?_;refine U138 ?_;refine U213 ?_;refine D.nil (fun w j2=>?_);have hA:=hA.A0 j2;have hE:=hE.A0 j2;have hg:=hg.A0 j2;have hR:=hR.A0 j2;have hC:=hC.A0 j2;clear j2;have neA:=I1.ne hA hg.m.ends (by decide);refine U256 ?_;intro neE w hg J3;have hA:=hA.other J3 neA;clear neA neE J3;have hc:(Rn.cl {R with ends:=R.ends.set i 2})[i]? =some c:=hc;refine L.nil ?_
 try clear hR
 try clear hC
 refine U279 ?_;refine U139 ?_;refine U97 ?_;refine U218 ?_;intro neA w hg J3;have hA:=hA.other J3 neA;refine U215 ?_;refine U137 ?_;refine U214 ?_;refine U128 ?_;refine U220 ?_;refine U120 ?_;intro w j2 hg;clear j2;obtain⟨m,hm⟩:=tw0 ⟨R.rb,8⟩ (n:=0) (a:=a45) (todo:=w7) tx0;refine ZA.lo0 (i:=11) (rest:=[]) (s:=⟨R.yb,z0,me0⟩) (gr:=⟨R.rb,8⟩) (ft:=m+3) hb rfl rfl rfl hX0 (Nat.ne_of_lt N8) g9 N8 lq0 ?_ ?_
 ·refine At.l3 (A3 _ _) ?_;refine At.done (A3 _ _) (fun _=>?_);exact AtR.saved (A3 _ _) hsv rfl func113 rfl hm
 ·exact G7 _ hg
end
section
attribute [local irreducible] KK
theorem Rg.side {S:Nat->Prop} {B:Nat} {w0 w:World} {Bs:Nat} {R:Rn} (h:Rg S B w0 w Bs R) {b:Nat} {cs c6:Array Value} {T:TypeId} {f:Nat×Nat} (hb:I1 w b cs T f) (hT:T≠153/\T≠91/\T≠49/\T≠98/\T≠3/\T≠47/\T≠149) (hS:S b\/B <=b):Rg S B w0 (J1 w b c6 T f) Bs R:=by
 have J3:=Y1 w b c6 T f;have hr:∀T':TypeId,T'≠T->∀r,some b=some r->∃c6 T'' f',I1 w r c6 T'' f'/\T'≠T'':=fun T' hT r e=>by cases e;exact⟨_,_,_,hb,hT⟩
 have hm:L4 (J1 w b c6 T f) Bs R:=⟨H3 h.m.run J3 (hr _ (Ne.symm hT.1)),Q4 h.m.cls J3 (hr _ (Ne.symm hT.2.1)),Q4 h.m.evs J3 (hr _ (Ne.symm hT.2.2.1)),Q4 h.m.N2 J3 (hr _ (Ne.symm hT.2.2.2.1)),H3 h.m.ends J3 (hr _ (Ne.symm hT.2.2.2.2.1)),H3 h.m.k8 J3 (hr _ (Ne.symm hT.2.2.2.2.2.1)),h.m.en0,h.m.jx0,h.m.lcl,fun i c hc=>H3 (h.m.blk i c hc) J3 (hr _ (Ne.symm hT.2.2.2.2.2.2))⟩
 exact⟨hm,h.md.grown J3 h.le (fun r e=>by cases e;exact hS),h.fp,by rw[x5];exact h.le⟩
def Xn0 (c:CB) (x:Int):Ending->Prop
 | .returned _=>(c.st=true/\x=0)\/(c.st=false/\x=1)
 | .panicked ch=>bd0 ch/\((c.st=true/\x=0)\/(c.st=false/\x=2))
 | .outgrown=>False
structure Gm0 (top:List Frame) (T6 A6 rb cb:Nat):Prop where
 leave:∀{Post:Value->World->Prop} {X:Gh} {g:Nat} {S:Nat->Prop} {B:Nat} {w0:World} {Bs:Nat} {R:Rn} {w:World} {i:Nat} {c:CB} {z0:Value} {me0:Goroutine} {fr:Frame} {e:Ending} (x:Int),Rg S B w0 w Bs R->R.rb=rb->R.cl[i]? =some c->c.cb=cb ->
  I1 w T6 #[.p cb] 91 (0,0)->I1 w A6 #[.bool false] 4 (0,0)->(S A6\/B <=A6)->Xn0 c x e->0<g->X.D1 0=some ⟨R.yb,z0,me0⟩->X.dn=0->X.O2=some ⟨rb,8⟩ ->
  (∀w',Rg S B w0 w' Bs {R with ends:=R.ends.set i x,cl:=R.cl.set i {c with wt:=false}}->(∃en,I1 w' A6 #[.bool en] 4 (0,0))->Fin prog Post (X.pass g 0 none) 0 (Go.Conc.served me0 (.i (i:Int))) w') ->
  Leaves prog fr w e->Fin prog Post X g (G fr top) w
theorem L4.Or0 {w:World} {Bs:Nat} {R:Rn} (h:L4 w Bs R) {b:Nat} {cs:Array Value} {T:TypeId} {f:Nat×Nat} (hb:I1 w b cs T f) (hT:T≠153/\T≠91/\T≠49/\T≠98/\T≠3/\T≠47/\T≠149):¬R.fp b:=by
 intro hk;have own:∀{E:TypeId} {s n c:Nat} {a:Option Addr} {xs:List Value},Own w Bs E s a n c xs->a≠none->b=ab a->T≠E->False:=fun ho ha e B3=>by
  obtain⟨cur,hB,_⟩:=ho.row ha;exact I1.ne (f:=(0,0)) hB hb (Ne.symm B3) e.symm
 rcases hk with rfl|rfl|rfl|⟨ha,e⟩|⟨ha,e⟩|⟨ha,e⟩|⟨i,c,hc,rfl⟩
 ·exact I1.ne hb h.run hT.1 rfl
 ·exact I1.ne hb h.ends hT.2.2.2.2.1 rfl
 ·exact I1.ne hb h.k8 hT.2.2.2.2.2.1 rfl
 ·exact own h.cls ha e hT.2.1
 ·exact own h.evs ha e hT.2.2.1
 ·exact own h.N2 ha e hT.2.2.2.1
 ·exact I1.ne hb (h.blk i c hc) hT.2.2.2.2.2.2 rfl
theorem Rg.then {S:Nat->Prop} {B:Nat} {w0 w w':World} {Bs:Nat} {R R':Rn} (h:Rg S B w0 w Bs R) (h':Rg R.fp w.heap.size w w' Bs R'):Rg S B w0 w' Bs R' :=
 ⟨h'.m,⟨h'.md.os.trans h.md.os,h'.md.tape.trans h.md.tape,h'.md.output.trans h.md.output,Nat.le_trans h.md.size h'.md.size,fun k hk hs=>(h'.md.block k (Nat.lt_of_lt_of_le hk h.le) fun z=>(h.fp k z).elim hs (Nat.not_le_of_lt hk)).trans (h.md.block k hk hs)⟩,fun k hk=>by
  rcases h'.fp k hk with z|z
  ·exact h.fp k z
  ·exact .inr (Nat.le_trans h.le z),Nat.le_trans h.le h'.md.size⟩
theorem Gn0 {Post:Value->World->Prop} {X:Gh} {g:Nat} {S:Nat->Prop} {B:Nat} {w0:World} {Bs:Nat} {R:Rn} {w:World} {i:Nat} {c:CB} {z0:Value} {me0:Goroutine} {T6 A6:Nat} {en:Bool} {a45:Act} {w7:List Item} {md:FrameMode} {x:Int}
  (hg:Rg S B w0 w Bs R) (hc:R.cl[i]? =some c) (hx:(c.st=true/\x=0)\/(c.st=false/\en=true/\x=1)\/(c.st=false/\en=false/\x=2)) (hA:I1 w T6 #[.p c.cb] 91 (0,0)) (hE:I1 w A6 #[.bool en] 4 (0,0)) (N8:0<g) (hX0:X.D1 0=some ⟨R.yb,z0,me0⟩) (g9:X.dn=0) (lq0:X.O2=some ⟨R.rb,8⟩)
  (hmd:md= .returning\/∃v G4,md= .panicking ({v,recovered:=false} :: G4)/\G4.dropWhile (!·.goexit)=[]) (tx0:a45.defers={target:=.fn (.func 113) (bv0 T6 A6),args:=#[]} :: [dcall 68 #[.pointer (some ⟨R.rb,8,none⟩)]])
  (G7:∀w',Rg S B w0 w' Bs {R with ends:=R.ends.set i x,cl:=R.cl.set i {c with wt:=false}}->Fin prog Post (X.pass g 0 none) 0 (Go.Conc.served me0 (.i (i:Int))) w') :
  Fin prog Post X g (G {(baseD 106).at a45 w7 with mode:=md} [g6 prog]) w:=by
 refine(ax0 prog Post X g).ctl rfl rfl (fun w=>do0 (f:=113) (fn:=Tryz.f113) (caps:=bv0 T6 A6) (args:=#[]) (ds:=[dcall 68 #[.pointer (some ⟨R.rb,8,none⟩)]]) (by rcases hmd with rfl|⟨_,_,rfl,_⟩ <;> simp) tx0 func113 Wy0 rfl) ?_;rcases hx with⟨h1,rfl⟩|⟨h1,rfl,rfl⟩|⟨h1,rfl,rfl⟩
 ·exact Gj0 hg hc h1 hA hE N8 hX0 g9 lq0 hmd rfl G7
 ·exact Gk0 (en:=true) hg hc h1 hA hE N8 hX0 g9 lq0 hmd rfl G7
 ·exact Gl0 (en:=false) hg hc h1 hA hE N8 hX0 g9 lq0 hmd rfl G7
theorem rg0 {Post:Value->World->Prop} {X:Gh} {g:Nat} {S:Nat->Prop} {B:Nat} {w0:World} {Bs:Nat} {R:Rn} {w:World} {i:Nat} {c:CB} {z0:Value} {me0:Goroutine} {T6 A6:Nat} {en:Bool} {a45:Act} {w7:List Item} {md:FrameMode} {x:Int}
  (hg:Rg S B w0 w Bs R) (hc:R.cl[i]? =some c) (hx:(c.st=true/\x=0)\/(c.st=false/\en=true/\x=1)\/(c.st=false/\en=false/\x=2)) (hA:I1 w T6 #[.p c.cb] 91 (0,0)) (hE:I1 w A6 #[.bool en] 4 (0,0)) (N8:0<g) (hX0:X.D1 0=some ⟨R.yb,z0,me0⟩) (g9:X.dn=0) (lq0:X.O2=some ⟨R.rb,8⟩)
  (hmd:md= .returning\/∃v G4,md= .panicking ({v,recovered:=false} :: G4)/\G4.dropWhile (!·.goexit)=[]) (tx0:a45.defers={target:=.fn (.func 113) (bv0 T6 A6),args:=#[]} :: [dcall 68 #[.pointer (some ⟨R.rb,8,none⟩)]])
  (G7:∀w',Rg S B w0 w' Bs {R with ends:=R.ends.set i x,cl:=R.cl.set i {c with wt:=false}}->(∃en,I1 w' A6 #[.bool en] 4 (0,0))->Fin prog Post (X.pass g 0 none) 0 (Go.Conc.served me0 (.i (i:Int))) w') :
  Fin prog Post X g (G {(baseD 106).at a45 w7 with mode:=md} [g6 prog]) w:=by
 refine Gn0 hg.m.rg hc hx hA hE N8 hX0 g9 lq0 hmd tx0 fun w' L6=>G7 w' (hg.then L6) ⟨en,?_⟩;exact(L6.md.block A6 hE.lt (hg.m.Or0 hE (by decide))).trans hE
set_option maxRecDepth 20000 in
theorem Go0 {Post:Value->World->Prop} {X:Gh} {g:Nat} {w:World} {Bs:Nat} {R:Rn} {i:Nat} {c:CB} {f:FuncId} {fn:Func} {caps:Array Value} (hf:prog.funcs[f]? =some fn) (hbd:fn.body.isSome=true) (hnm:(fn.name== "runtime.NumGoroutine")=false)
  (hM:L4 w Bs R) (hc:R.cl[i]? =some c)
  (k4:∀w1 top T6 A6,Below w.heap.size w w1->w.heap.size <=T6->w.heap.size <=A6->I1 w1 T6 #[.p c.cb] 91 (0,0)->I1 w1 A6 #[.bool false] 4 (0,0)->Gm0 top T6 A6 R.rb c.cb->Fin prog Post X g (G (Frame.enter prog f (#[] ++ #[.p c.cb]++caps) .normal) top) w1) :
  Fin prog Post X g (born prog (dcall 106 #[.p c.cb,.func (.func f) #[] caps])) w:=by
 refine(ax0 prog Post X g).ctl rfl rfl (fun w=>Ch0 func106 Wv0 rfl) ?_;letI:Ctx prog:=M1 prog (g==0);have hZ:Ctx.Zs prog (Fin prog Post X g):=D4;have hb:=bkd 106;refine(?_:ZA (Fin prog Post X g) 15 (baseD 106) [g6 prog] (Vc.J7 #[.p c.cb,.func (.func f) #[] caps]) [.code (Tryz.f106.body.getD .skip)] w) _ (j6 _ _ rfl);refine U1 ?_;refine L.box (cs:=#[.p c.cb]) rfl rfl (fun w1 T6 FA=>?_);refine U0 ?_;refine U1 ?_;refine L.alloc (cs:=#[.bool false]) zr4 rfl (fun w2 A6 FE=>?_);refine L.pu 0 [.bool false] #[.bool false] sz4 FE.blk (fun w3 hE J3 B2=>?_);refine U0 ?_;have E5:Below w.heap.size w w1:=FA.below;have lA:w.heap.size <=T6:=by have:=FA.here;omega
 have lE:w.heap.size <=A6:=by have:=FE.here;have:=E5.size;omega
 have hb2:Below w.heap.size w w2:=O0 E5 FE.below;have hb3:Below w.heap.size w w3:=R3 hb2 hb2.size J3 lE;have hA:I1 w3 T6 #[.p c.cb] 91 (0,0):=(T3 (FA.blk.A0 FE.below)).other J3 (I1.ne (T3 (FA.blk.A0 FE.below)) (T3 FE.blk) (by decide));have hM3:=hM.A0 hb3;refine ZA.zd ?_;refine U270 ?_;refine ZD.va hZ hb (i:=0) (rest:=[1,2,3,4,5,6]) rfl rfl (E0 rfl underlying91 rfl (hA.F0 0 (v:=.p c.cb) rfl)) ?_;refine ZD.va hZ hb (i:=1) rfl rfl (u1 rfl) ?_;refine ZD.va hZ hb (i:=2) rfl rfl (K0 rfl underlying149 rfl Fv0 (by decide)) ?_;refine ZD.va hZ hb (i:=3) rfl rfl (E0 rfl underlying146 rfl ((hM3.blk i c hc).F0 1 (v:=.p R.rb) rfl)) ?_;refine ZD.va hZ hb (i:=4) rfl rfl (u1 rfl) ?_;refine ZD.va hZ hb (i:=5) rfl rfl (K0 rfl underlying153 rfl Oa0 (by decide)) ?_;refine ZD.defer hZ hb (i:=6) (vs:=#[.pointer (some ⟨R.rb,8,none⟩)]) rfl (Wg.Y6 (vl:=[.pointer (some ⟨R.rb,8,none⟩)]) rfl) ?_;refine ZD.l3 hZ ?_;refine U270 ?_;refine ZD.va hZ hb (i:=0) (rest:=[1]) rfl rfl (S3 (l:=[.tmp 2,.tmp 4]) (vs:=[.p T6,.p A6]) rfl) ?_;refine ZD.Rb0 hZ hb (i:=1) (caps:=bv0 T6 A6) rfl rfl ?_;refine ZD.l3 hZ ?_;refine U270 ?_;refine ZD.va hZ hb (i:=0) (rest:=[1,2]) rfl rfl (Ej0 rfl) ?_;refine ZD.va hZ hb (i:=1) rfl rfl (E0 rfl underlying91 rfl (hA.F0 0 (v:=.p c.cb) rfl)) ?_;refine ZD.call hZ hb (i:=2) rfl (ba0 (first:=#[]) (cap:=caps) (args:=#[.p c.cb]) rfl (Wg.Y6 (vl:=[.p c.cb]) rfl) hf hbd hnm) (fun a ha=>?_);refine k4 w3 _ T6 A6 hb3 lA lE hA hE ⟨?_⟩;clear k4 hb3 hb2 E5 hM3 hA hE J3 B2 FA FE;intro Post X g S B w0 Bs R' w i c' z0 me0 fr e x hg hRb hc hcb hA hE hS hx N8 hX0 g9 J3 G7 hl;rw[<- hcb]at hA;have Xo0:X.O2=some ⟨R'.rb,8⟩:=by rw[hRb];exact J3
 letI:Ctx prog:=M1 prog (g==0);have hZ:Ctx.Zs prog (Fin prog Post X g):=D4;cases e with
 |outgrown=>exact hx.elim
 |panicked ch=>
  obtain⟨⟨v,G4,rfl,ho⟩,hx⟩:=hx;refine dg0 (ax0 _ _ _ _) hl ?_;rw[Frame.raise_at];exact rg0 (en:=false) hg hc (by rcases hx with h|h;exact .inl h;exact .inr (.inr ⟨h.1,rfl,h.2⟩)) hA hE N8 hX0 g9 Xo0 (.inr ⟨v,G4,rfl,ho⟩) (by rw[hRb];exact ha.defers) G7
 |returned v=>
  refine M9 (ax0 _ _ _ _) hl ?_;have cy0:∀(ops:Array Oper) (k:List Item) (o:Oper),ops[2]? =some o->((baseD 106).at a (.inRegion ops [2]::k)).finish v=(baseD 106).at (a.put o.dst v) (.inRegion ops []::k):=fun ops k o ho=>by rw[Frame.finish_at,ho];rfl
  rw[cy0 _ _ _ rfl];refine(?_:ZD (Fin prog Post X g) 15 (baseD 106) [g6 prog] _ _ _ w) _ (ha.put rfl v);refine ZD.l3 hZ ?_;refine ZD.region hZ ?_;refine ZD.st hZ hb (i:=0) (rest:=[]) rfl (ke0 (v:=.bool true) (p:=⟨A6,0,none⟩) (v0:=.bool false) rfl rfl sz4 rfl (hE.F0 0 rfl) (by rw[hE.frozen];rfl)) ?_;rw[cu0 hE];refine ZD.l3 hZ ?_;intro a5 ha5;refine(ax0 prog Post X g).ctl rfl rfl (fun _=>stepG_end) ?_;exact rg0 (en:=true) (hg.side hE (by decide) hS) hc (by rcases hx with h|h;exact .inl h;exact .inr (.inl ⟨h.1,rfl,h.2⟩)) (hA.other (Y1 _ _ _ _ _) (I1.ne hA hE (by decide))) (V4 hE _ _ _) N8 hX0 g9 Xo0 (.inl rfl) (by rw[hRb];exact ha5.defers) G7
end
section
attribute [local irreducible] KK
def yb0 (cs:List Frame) (me:Goroutine):Prop:=∀Z,@Ctx.Zs prog (M1 prog true) Z->∀(u:World) (v:Value),(∀fr,fr.fn=78->Leaves prog fr u (.returned (.tuple #[]))->Z (G fr cs) u)->Z (Go.Conc.served me v) u
theorem Xp0 (x0:Int) (x1:Int) (x2:Int) (x3:Int):prog.built 49 [(0,.i x0),(1,.agg #[.i x1,.i x2,.i x3])]=some #[.i x0,.i x1,.i x2,.i x3]:=by kernel_rfl
set_option maxRecDepth 20000 in
theorem Gp0 {Post:Value->World->Prop} {X:Gh} {g:Nat} {S:Nat->Prop} {B:Nat} {w0:World} {Bs:Nat} {R:Rn} {w:World} {i:Nat} {c:CB} {cs:List Frame} {z1:Value} {me1:Goroutine}
  (hg:Rg S B w0 w Bs R) (hBs:Bs <=w.heap.size) (hc:R.cl[i]? =some c) (hrm:R.evs.length <=1000000) (hpm:c.N1 <=1000000) (hum:R.used <=1000000)
  (N8:g≠0) (hX0:X.D1 g=some ⟨c.rc,z1,me1⟩) (g9:X.dn=0) (R2:X.stay 0=[(⟨R.rb,7,none⟩,.chan (some R.yb))]) (hsh:X.N7 R.yb/\∀i s2,i≠g->X.D1 i=some s2->s2.ch≠R.yb)
  (E6:∀w' a n me0,Rg S B w0 w' Bs {R with ea:=a,ec:=n,evs:=R.evs ++ [(i,c.sp)],used:=R.used+1,cl:=R.cl.set i {c with N1:=c.N1+1,wt:=false}}->yb0 cs me0->Fin prog Post (X.pass 0 g (some ⟨R.yb,.i 0,me0⟩)) g (Go.Conc.served me1 (.bool true)) w') :
  Fin prog Post X 0 (G (Frame.enter prog 78 #[.p R.rb,.p c.cb] .normal) cs) w:=by
 letI:Ctx prog:=M1 prog true;rw[enter_at _ func78 rfl];refine(?_:ZA (Fin prog Post X 0) 52 (base 78) cs (Vc.J7 #[.p R.rb,.p c.cb]) [.code (Tryz.f78.body.getD .skip)] w) _ (j6 _ _ rfl);have hZ:Ctx.Zs prog (Fin prog Post X 0):=D4;have hb:=Y0 78;refine ZA.seq hZ ?_;refine U121 ?_;intro hR hC;refine W.fl 17 [15,16] [0,1,2,3,4,5,6,7,8,9,10,11,12,13,14,15,16] (fun w'=>I1 w' R.rb #[.slice R.ca R.cl.length R.cc,.slice R.ea R.evs.length R.ec,.slice R.na R.N2.length R.nc,.slice (pt R.eb) R.m R.m,.slice (pt R.wb) R.m R.m,.bool R.stuck,.i (R.used:Int),.chan (some R.yb)] 153 (7,8)/\I1 w' c.cb #[.i (i:Int),.p R.rb,.chan (some c.rc),.i c.sp.kind,.i c.sp.obj,.i c.sp.num,c.rf,c.df,.i (c.N1:Int),.bool c.wt,.bool c.st] 149 (0,3)) (by kernel_rfl) (by kernel_rfl) (by kernel_rfl) (by kernel_rfl) (by kernel_rfl) (⟨hR.A0 (Below.refl w.heap.size w).drew,hC.A0 (Below.refl w.heap.size w).drew⟩) ?_;have Q5:Below w.heap.size w w.drew:=(Below.refl w.heap.size w).drew;have hBs:=Nat.le_trans hBs Q5.size;have hg:=hg.A0 Q5;have hR:=hR.A0 Q5;have hC:=hC.A0 Q5;clear Q5;generalize w.drew=w at *;refine F.va rfl rfl (fun w' V1=>(K3 rfl)) ?_;refine U229 ?_;refine F.va rfl rfl (fun w' V1=>(K0 rfl underlying153 rfl if0 (by decide))) ?_;refine F.va rfl rfl (fun w' V1=>(K0 rfl underlying30 rfl Fp0 (by decide))) ?_;refine F.va rfl rfl (fun w' V1=>(E0 rfl underlying26 rfl (V1.1.F0 1 (v:=.slice R.ea R.evs.length R.ec) rfl))) ?_;refine U229 ?_;refine F.va rfl rfl (fun w' V1=>(K0 rfl underlying149 rfl sz3 (by decide))) ?_;refine F.va rfl rfl (fun w' V1=>(E0 rfl underlying3 rfl (V1.2.F0 0 (v:=.i (i:Int)) rfl))) ?_;refine U229 ?_;refine F.va rfl rfl (fun w' V1=>(K0 rfl underlying149 rfl tt0 (by decide))) ?_;refine F.va rfl rfl (fun w' V1=>(E1 (cs:=[.i c.sp.kind,.i c.sp.obj,.i c.sp.num]) rfl underlying47 rfl tt0 rfl (V1.2.N5 rfl))) ?_;refine F.va rfl rfl (fun w' V1=>(N3 (parts:=[(0,.tmp 13),(1,.tmp 17)]) rfl (Xp0 (i:Int) c.sp.kind c.sp.obj c.sp.num))) ?_;refine F.doo rfl rfl ?_;refine L.lf0 (cs:=#[.i (i:Int),.i c.sp.kind,.i c.sp.obj,.i c.sp.num]) rfl rfl underlying26 La0 rfl ⟨_,bg1⟩ (by decide) (fun w b19 F19=>?_);have hBs:=Nat.le_trans hBs F19.below.size;have hg:=hg.A0 F19.below;have hR:=hR.A0 F19.below;have hC:=hC.A0 F19.below;have Lh0:=F19.blk;refine L.nil ⟨rfl,⟨hR,hC⟩,?_⟩;refine F.doo rfl rfl ?_;refine L.ts0 (B:=Bs) (m:=1) rfl rfl underlying26 bh1 rfl (by decide) hg.m.evs (news:=[.i (i:Int),.i c.sp.kind,.i c.sp.obj,.i c.sp.num]) rfl (fun j u hj=>by
  rw[Addr.add_lit]
  match j,hj with
  |0,hj=>cases hj;exact Lh0.F0 0 rfl
  |1,hj=>cases hj;exact Lh0.F0 1 rfl
  |2,hj=>cases hj;exact Lh0.F0 2 rfl
  |3,hj=>cases hj;exact Lh0.F0 3 rfl) (fun u hu=>by simp only[List.mem_cons,List.not_mem_nil,or_false]at hu;rcases hu with rfl|rfl|rfl|rfl <;> rfl) (by omega) (by omega) hBs (fun a20 c20 w2 hO J3 hli=>?_)
 have hR:=H3 hR J3 (K6 hg.m.evs (by decide));have hC:=H3 hC J3 (K6 hg.m.evs (by decide));refine L.nil ⟨rfl,⟨hR,hC⟩,?_⟩;refine U6 ?_;refine U98 ?_;refine L.va (K0 rfl underlying30 rfl Fp0 (by decide)) ?_;refine L.df1 (o:=0) (v:=undef) hg (i,c.sp) J3 hO hli rfl rfl Fp0 (fun w hg=>?_)
 try clear J3
 refine L.nil ?_
 try clear hR
 try clear hC
 refine U122 ?_;refine U1 ?_;refine U247 ?_;refine L.va (K0 rfl underlying30 rfl sz3 (by decide)) ?_;refine L.va (E0 rfl underlying3 rfl (hg.m.run.F0 6 (v:=.i (R.used:Int)) rfl)) ?_;refine L.va (qa0 rfl rfl (by omega)) ?_;refine U98 ?_;refine L.va (K0 rfl underlying30 rfl sz3 (by decide)) ?_;refine L.stR (o:=6) (vs:=[.i ((R.used+1:Nat):Int)]) hg R.stuck (R.used+1) rfl rfl rfl sz3 rfl rfl (by decide) rfl (fun w hg J3=>?_)
 try clear J3
 refine U0 ?_;refine U1 ?_;refine U528 ?_;refine L.va (E0 rfl underlying3 rfl ((hg.m.blk i c hc).F0 8 (v:=.i (c.N1:Int)) rfl)) ?_;refine L.va (qa0 rfl rfl (by omega)) ?_;refine L.va (u1 rfl) ?_;refine L.va (K0 rfl underlying149 rfl sz3 (by decide)) ?_;refine L.stC (i:=i) (o:=8) (vs:=[.i ((c.N1+1:Nat):Int)]) hg {c with N1:=c.N1+1} hc rfl rfl rfl rfl sz3 rfl rfl (by decide) rfl (fun w hg J3=>?_)
 try clear J3
 refine U0 ?_;refine U1 ?_;refine U42 ?_;refine L.stC (i:=i) (o:=9) (vs:=[.bool false]) hg {{c with N1:=c.N1+1} with wt:=false} (S5 hc) rfl rfl rfl rfl sz4 rfl rfl (by decide) rfl (fun w hg J3=>?_)
 try clear J3
 refine U19 ?_;refine ZA.upto hZ hb 4 rfl rfl (R:=fun e' w'=>ZA _ _ _ _ e' _ w') ?_ (fun _ _ h=>h);refine U516 ?_;refine L.va (E0 rfl underlying147 rfl ((hg.m.blk i _ (S5 (S5 hc))).F0 2 (v:=.chan (some c.rc)) rfl)) ?_;refine U0 ?_;refine ZA.give (i:=4) (rest:=[]) (s:=⟨c.rc,z1,me1⟩) (j:=g) (st:=[(⟨R.rb,7,none⟩,.chan (some R.yb))]) (K:=fun s=>s.ch=R.yb/\s.z= .i 0/\yb0 cs s.me) (ft:=60) hb rfl rfl rfl hX0 N8 g9 R2 ?_ ?_ ?_
 ·have hY:=tv0 (P:=prog) (main:=true) (l:=[((⟨R.rb,7,none⟩:Addr),Value.chan (some R.yb))]) (K:=fun s=>s.ch=R.yb/\s.z= .i 0/\yb0 cs s.me);refine U260 ?_;refine U228 ?_;refine U217 ?_;refine G0.D1 (E:=3) (z:=.i 0) hb underlying150 zr3 rfl (fun me hs=>⟨rfl,rfl,?_⟩) rfl;intro Z hZ w v hK;refine hs.go ?_;letI:Ctx prog:=M1 prog true;refine ZA.l3 hZ ?_;refine ZA.done hZ ?_;exact ZA.leaves (fn:=Tryz.f78) (f:=78) rfl func78 rfl (fun fr h8 h9=>hK fr h8 h9)
 ·rintro s2 ⟨h1,_,_⟩;rw[h1];exact hsh
 ·rintro⟨ch,z,me⟩ ⟨h1,h2,h3⟩;cases h1;cases h2;exact E6 _ _ _ me (by simpa using hg) h3
end
section
attribute [local irreducible] KK
noncomputable def endLoop:Code:=match Tryz.f80.body with|some (.seq (.seq _ (.block _ (.loop c))) _)=>c|_=>.skip
noncomputable def Ao0:Code:=match Tryz.f80.body with|some (.seq _ c)=>c|_=>.skip
structure Li0 (rb0 m:Nat) (ca:Option Addr) (cc:Nat) (Bs:Nat) (Post:Value->World->Prop) (cs:List Frame) (J:Nat->Gh->Rn->World->Prop):Prop where
 mem:∀i X R w,J i X R w->L4 w Bs R/\R.rb=rb0/\R.cl.length=m/\R.ca=ca/\R.cc=cc
 skip:∀i X R w c,J i X R w->R.cl[i]? =some c->c.wt=false->J (i+1) X R w
 stop:∀i X R w c,J i X R w->R.cl[i]? =some c->c.wt=true->∃g z1 me1,g≠0/\X.D1 g=some ⟨c.rc,z1,me1⟩/\X.dn=0/\X.stay 0=[(⟨R.rb,7,none⟩,.chan (some R.yb))]/\(X.N7 R.yb/\∀i s2,i≠g->X.D1 i=some s2->s2.ch≠R.yb) /\
  ∀w' me0,Rg R.fp w.heap.size w w' Bs {R with k8:=R.k8.set i c.sp}->(∀X' R' u v,J (i+1) X' R' u->Fin prog Post X' 0 (Go.Conc.served me0 v) u)->Fin prog Post (X.pass 0 g (some ⟨R.yb,.i 0,me0⟩)) g (Go.Conc.served me1 (.bool false)) w'
 fin:∀X R w,J m X R w->(∀i,X.D1 i=none)/\X.O2=some ⟨rb0,8⟩/\X.pend=0/\X.dn=0/\X.cap<2147483648/\∀fr,fr.fn=80->Leaves prog fr w (.returned (.tuple #[]))->Fin prog Post {X with pend:=0,cap:=0,dn:=0} 0 (G fr cs) w
set_option maxRecDepth 20000 in
theorem Gq0 {rb0 m:Nat} {ca:Option Addr} {cc:Nat} {Bs:Nat} {Post:Value->World->Prop} {cs:List Frame} {J:Nat->Gh->Rn->World->Prop} (hE:Li0 rb0 m ca cc Bs Post cs J) {X:Gh} {R:Rn} {w:World} (hJ:J m X R w) {e:Env} (s0:e 0= .p rb0):ZA (Fin prog Post X 0) 43 (base 80) cs e [.code Ao0] w:=by
 obtain⟨hM,B9,hm,hca,hcc⟩:=hE.mem _ _ _ _ hJ;obtain⟨z8,J3,hp,g9,ey0,hK⟩:=hE.fin _ _ _ hJ;letI:Ctx prog:=M1 prog true;refine U172 ?_;intro hZ hb;rw[<- B9]at s0;rw[L1 s0];clear s0;refine ZA.upto hZ hb 3 rfl rfl (R:=fun e' w'=>ZA _ _ _ _ e' _ w') ?_ (fun _ _ h=>h);refine U267 ?_;refine U515 ?_;refine ZA.call (i:=3) (rest:=[]) hZ hb (f:=70) (args:=#[.pointer (some ⟨R.rb,8,none⟩)]) rfl rfl (D2 rfl func70 rfl Wm0 rfl) (fun a ha=>?_);rw[B9];refine Fin.wait (G:=⟨rb0,8⟩) (K:=fun g'=>g'=_) J3 z8 hp g9 (Qv0 ⟨rb0,8⟩ (fun g'=>g'=_) rfl X.cap ey0) (fun g' L6=>?_);subst L6;refine ZA.home (i:=3) rfl rfl ha ?_;have hZ':Ctx.Zs prog (Fin prog Post {X with pend:=0,cap:=0,dn:=0} 0):=D4;refine ZA.l3 hZ' ?_;refine ZA.done hZ' ?_;exact ZA.leaves (fn:=Tryz.f80) (f:=80) rfl func80 rfl hK
set_option maxRecDepth 20000 in
theorem Gr0 {rb0 m:Nat} {ca:Option Addr} {cc:Nat} {Bs:Nat} {Post:Value->World->Prop} {cs:List Frame} {J:Nat->Gh->Rn->World->Prop} (hE:Li0 rb0 m ca cc Bs Post cs J) (hm1:m <=1000):∀(k i:Nat),i+k=m->∀X R w,J i X R w->∀e:Env,e 0= .p rb0->e 7= .slice ca m cc->e 8= .i (m:Int)->e 9= .i (i:Int)->ZA (Fin prog Post X 0) 43 (base 80) cs e [.code endLoop,.inLoop endLoop,.inBlock 0,.code Ao0] w:=by
 intro k
 induction k with
 |zero=>
  intro i hk X R w hJ e s0 s7 s8 s9;obtain⟨hM,B9,hm,hca,hcc⟩:=hE.mem _ _ _ _ hJ;letI:Ctx prog:=M1 prog true;refine U172 ?_;intro hZ hb;rw[<- B9]at s0;rw[<- hca,<- hm,<- hcc]at s7;rw[<- hm]at s8;refine U162 ?_;refine ZA.seq hZ ?_;obtain rfl:i=R.cl.length:=by omega
  refine U92 ?_;refine U343 ?_;refine U245 ?_;exact Gq0 hE (by rw[<- hm];exact hJ) (by rw[<- B9];rfl)
 |succ k ih=>
  intro i hk X R w hJ e s0 s7 s8 s9;obtain⟨hM,B9,hm,hca,hcc⟩:=hE.mem _ _ _ _ hJ;letI:Ctx prog:=M1 prog true;refine U172 ?_;intro hZ hb;rw[<- B9]at s0;rw[<- hca,<- hm,<- hcc]at s7;rw[<- hm]at s8;refine U162 ?_;have H2:i<R.cl.length:=by omega
  obtain⟨c,hc⟩:∃c,R.cl[i]? =some c:=⟨_,List.getElem?_eq_getElem H2⟩
  refine U86 ?_;refine U280 ?_;refine U171 ?_;refine U382 ?_;refine L.va (et0 rfl) ?_;refine U274 ?_;refine U1 ?_;refine U451 ?_;refine U0 ?_;by_cases hwt:c.wt=false
  ·refine ZA.O5 hZ (rb hwt) ?_;refine ZA.skip hZ ?_;refine ZA.inBlock hZ ?_;refine U114 ?_;exact ih (i+1) (by omega) X R w (hE.skip i X R w c hJ hc hwt) _ (by rw[<- B9];rfl) (by rw[<- hca,<- hm,<- hcc];rfl) (by rw[<- hm];rfl) rfl
  ·have hwt:c.wt=true:=by simpa using hwt
   refine ZA.J4 hZ (rb hwt) ?_;obtain⟨g,z1,me1,N8,hX0,g9,R2,hsh,E6⟩:=hE.stop i X R w c hJ hc hwt;have hg:=hM.rg;refine ZA.seq hZ ?_;refine U121 ?_;intro hR hC;refine W.dl0 11 (fun w'=>Below w.heap.size w w') (by kernel_rfl) (by kernel_rfl) (by kernel_rfl) (by kernel_rfl) ((Below.refl w.heap.size w).drew) ?_;refine D.va (fun w' V1=>(K3 rfl)) ?_;refine U308 ?_;refine D.va (fun w' V1=>(K0 rfl underlying30 rfl Qo0 (by decide))) ?_;refine D.va (fun w' V1=>(E0 rfl underlying28 rfl ((hR.A0 V1).F0 4 (v:=.slice (pt R.wb) R.m R.m) rfl))) ?_;refine D.va (fun w' V1=>(Y3 rfl)) ?_;refine U238 ?_;refine D.va (fun w' V1=>(K0 rfl underlying149 rfl tt0 (by decide))) ?_;refine D.va (fun w' V1=>(E1 (cs:=[.i c.sp.kind,.i c.sp.obj,.i c.sp.num]) rfl underlying47 rfl tt0 rfl ((hC.A0 V1).N5 rfl))) ?_;refine D.va (fun w' V1=>p9 (i:=i) rfl rfl underlying28 tt0 (Nat.lt_of_lt_of_le H2 hM.lcl)) ?_;refine U120 ?_;intro w j2 hg;have hR:=hR.A0 j2;have hC:=hC.A0 j2;clear j2;refine L.stW (i:=i) (z:=c.sp) hg (Nat.lt_of_lt_of_le H2 hM.lcl) rfl rfl tt0 (fun w hg J3=>?_);clear J3;refine L.nil ?_
   try clear hR
   try clear hC
   refine U122 ?_;refine ZA.seq hZ ?_;refine ZA.upto hZ hb 4 rfl rfl (R:=fun e' w'=>ZA _ _ _ _ e' _ w') ?_ (fun _ _ h=>h);refine U516 ?_;refine L.va (E0 rfl underlying147 rfl ((hg.m.blk i c hc).F0 2 (v:=.chan (some c.rc)) rfl)) ?_;refine U0 ?_;refine ZA.give (i:=4) (rest:=[]) (s:=⟨c.rc,z1,me1⟩) (j:=g) (st:=[(⟨R.rb,7,none⟩,.chan (some R.yb))]) (K:=fun s=>s.ch=R.yb/\s.z= .i 0/\∀X' R' u v,J (i+1) X' R' u->Fin prog Post X' 0 (Go.Conc.served s.me v) u) (ft:=60) hb rfl rfl rfl hX0 N8 g9 R2 ?_ ?_ ?_
   ·have hY:=tv0 (P:=prog) (main:=true) (l:=[((⟨R.rb,7,none⟩:Addr),Value.chan (some R.yb))]) (K:=fun s=>s.ch=R.yb/\s.z= .i 0/\∀X' R' u v,J (i+1) X' R' u->Fin prog Post X' 0 (Go.Conc.served s.me v) u);refine U260 ?_;refine U228 ?_;refine U217 ?_;refine G0.D1 (E:=3) (z:=.i 0) hb underlying150 zr3 rfl (fun me hs=>⟨rfl,rfl,?_⟩) rfl;intro X R' w v hJ';refine hs.go ?_;have hZ:Ctx.Zs prog (Fin prog Post X 0):=D4;refine U258 ?_;refine U114 ?_;exact ih (i+1) (by omega) X R' w hJ' _ (by rw[<- B9];rfl) (by rw[<- hca,<- hm,<- hcc];rfl) (by rw[<- hm];rfl) rfl
   ·rintro s2 ⟨h1,_,_⟩;rw[h1];exact hsh
   ·rintro⟨ch,z,me⟩ ⟨h1,h2,h3⟩;cases h1;cases h2;exact E6 _ me hg h3
set_option maxRecDepth 20000 in
theorem Ap0 {rb0 m:Nat} {ca:Option Addr} {cc:Nat} {Bs:Nat} {Post:Value->World->Prop} {cs:List Frame} {J:Nat->Gh->Rn->World->Prop} (hE:Li0 rb0 m ca cc Bs Post cs J) (hm1:m <=1000) {X:Gh} {R:Rn} {w:World} (hJ:J 0 X R w):Fin prog Post X 0 (G (Frame.enter prog 80 #[.p rb0] .normal) cs) w:=by
 obtain⟨hM,B9,hm,hca,hcc⟩:=hE.mem _ _ _ _ hJ;letI:Ctx prog:=M1 prog true;refine U172 ?_;intro hZ hb;rw[enter_at _ func80 rfl];rw[<- B9];refine(?_:ZA (Fin prog Post X 0) 43 (base 80) cs (Vc.J7 #[.p R.rb]) [.code (Tryz.f80.body.getD .skip)] w) _ (j6 _ _ rfl);refine ZA.seq hZ ?_;refine U1 ?_;refine U152 ?_;refine U381 ?_;refine U174 ?_;refine U169 ?_;exact Gr0 hE hm1 m 0 (by omega) X R w hJ _ (by rw[<- B9];rfl) (by rw[<- hca,<- hm,<- hcc];rfl) (by rw[<- hm];rfl) rfl
end
end Go.Vy.Sc
end
section
namespace Go.Vy
open Go Go.Conc Go.Yc Go.RowKit
open Go.Vc Go.Wg
def ChanAt (w:World) (b:Nat):Prop:=w.heap[b]? =some (.chan 0 #[] false 0 0 false)
section
variable {w w':World}{b:Nat}
theorem ChanAt.lt (h:ChanAt w b):b<w.heap.size:=(Array.getElem?_eq_some_iff.1 h).1
theorem ChanAt.A0 (h:ChanAt w b) (hb:Below w.heap.size w w'):ChanAt w' b:=(hb.block b h.lt).trans h
theorem ChanAt.grown {row:Option Nat} (h:ChanAt w b) (hg:w.grownBy w' row) (hr:∀r,row=some r->∃cs T f,I1 w r cs T f):ChanAt w' b :=
 (hg.block b h.lt fun e=>by
  obtain⟨cs,T,f,h'⟩:=hr b e.symm;unfold ChanAt at h;unfold I1 at h';rw[h]at h';cases h').trans h
end
theorem L.makeChan {P:Program} [Ctx P] {n:Nat} {Q:Exit->Env->World->Prop} {e:Env} {w:World} {ops:Array Oper} {rest:List Oper} {d:Nat} {ty:TypeId} {ps:String} {af:Array Edge} {T E:TypeId} {x:Operand} {dd:ChanDir} (hx:ev e x= .int .i64 0) (hT:P.underlying T=some (.chan dd E)) (hi:∃z,(P.info? E).map (·.size)=some z)
  (k:∀w1,Below w.heap.size w w1->ChanAt w1 w.heap.size->w1.heap.size=w.heap.size+1->L P n ops Q rest (upd e d (.chan (some w.heap.size))) w1):L P n ops Q (⟨some d,.makeChan T x,ty,ps,af,none⟩::rest) e w:=by
 obtain⟨z,hz⟩:=hi;obtain⟨i,hi,_⟩:=Option.map_eq_some_iff.1 hz;refine L.va (v:=.chan (some w.heap.size)) (w':=w.alloc (.chan 0 #[] false 0 0 false)) (.j1 (A2 rfl _) rfl rfl fun τ d'=>?_) (k _ ((Below.refl _ _).alloc (Nat.le_refl _) _) (by unfold ChanAt;show(w.heap.push _)[_]? =_;simp) (by show(w.heap.push _).size=_;simp));have:=run_makeChan (P:=P) (w:=W2 w τ d') hT hi .i64 0 (by decide) (by simp);show _=Result.ok (Next.value (.chan (some (W2 w τ d').heap.size))) ((W2 w τ d').alloc (.chan 0 #[] false 0 0 false));simp only[execOp,hx];have h2:((0:Nat):Int)=0:=rfl;rw[h2]at this;simp[this]
section
variable {P:Program}{Post:Value->World->Prop}{X:Gh}{h n:Nat}{b:Frame}{cs:List Frame}{e:Env}{k:List Item}{w:World}
theorem ZA.freeze {bb:Nat} {cells:Array Value} {T:TypeId} {f:Nat×Nat} (hl:J9 X bb) (hB:I1 w bb cells T (0,0)) (hz:ZA (Fin P Post (X.lower bb) h) n b cs e k (J1 w bb cells T f)):ZA (Fin P Post X h) n b cs e k w :=
 fun a ha=>Fin.freeze (f:=(0,0)) (f':=f) hl hB (fun i hi=>by unfold inR at hi;omega) (hz a ha)
def ty0 (X:Gh) (rb yb off:Nat):Gh:=⟨X.D1,Go.ConcN.upd X.stay 0 [(⟨rb,off-1,none⟩,.chan (some yb))],some ⟨rb,off⟩,X.O2.toList++X.old,X.j4,fun c=>X.N7 c\/c=yb,fun k=>(X.low k\/k=yb)\/k=rb,X.O4,X.cap,X.pend,X.dn,X.n⟩
theorem ZA.begin {rb yb:Nat} {c8:Array Value} {T:TypeId} (ey0:X.cap=0) (hU:X.c9 rb) (hUy:X.c9 yb) (hpr:X.O4 rb= .all) (hpy:X.O4 yb= .all) (Z5:ChanAt w yb) (hB:S0 w rb (c8 ++ #[.int .u64 0,.int .u32 0]) T) (h0:0<c8.size) (hy:c8[c8.size-1]? =some (.chan (some yb)))
  (hz:ZA (Fin P Post (ty0 X rb yb c8.size) 0) n b cs e k (J1 (K2 w yb nothing) rb c8 T (c8.size-1,c8.size))):ZA (Fin P Post X 0) n b cs e k w:=by
 have B3:yb≠rb:=by
  intro e;subst e;unfold ChanAt at Z5;unfold S0 at hB;rw[Z5]at hB;cases hB
 intro a ha;refine Fin.chan (b:=yb) (k:=0) (hUy.av0 (Nat.le_refl _)) (fun hl=>absurd (hUy.low _ hl) (Nat.lt_irrefl _)) hpy Z5 ?_;have hB1:(K2 w yb nothing).heap[rb]? =some (.cells (c8 ++ #[.int .u64 0,.int .u32 0]) T (0,0)):=by rw[D5 _ _ B3];exact hB
 refine Fin.Dj0 (f':=(c8.size-1,c8.size)) (b:=rb) ey0 ?_ ?_ hpr hB1 (Nat.zero_le _) ?_
 ·have hl:=hU.av0 (Nat.le_refl rb);exact⟨hl.stay,hl.j4,fun h=>h.elim hl.N7 fun h=>B3 h.symm,hl.O2⟩
 ·intro h;rcases h with h|h
  ·exact absurd (hU.low _ h) (Nat.lt_irrefl _)
  ·exact B3 h.symm
 have K7:(K2 (K2 w yb nothing) rb (.cells c8 T (c8.size-1,c8.size))).heap[rb]? =some (.cells c8 T (c8.size-1,c8.size)):=N6 _ hB1;refine Fin.stay (l:=[(⟨rb,c8.size-1,none⟩,.chan (some yb))]) (fun p hp=>?_) (hz a ha);obtain rfl:p=(⟨rb,c8.size-1,none⟩,.chan (some yb)):=by simpa using hp
 exact⟨I1.cell (f:=(c8.size-1,c8.size)) K7 hy,by rw[I1.frozen (f:=(c8.size-1,c8.size)) K7];simp;omega⟩
end
end Go.Vy
end
section
namespace Go.Vy.Sc
open Go Go.Conc Go.Yc Go.RowKit Go.Proofs Go.Proofs.YtnifpkopeheodaaGreat Tryz
open Go.Vc Go.Wg
section
attribute [local irreducible] KK
noncomputable def Aq0:Code:=match Tryz.f76.body with|some (.seq _ (.block _ (.loop c)))=>c|_=>.skip
def sp0:Stp:=⟨0,0,0⟩
abbrev Z3 (cb rc:Nat):CB:=⟨cb,rc,sp0,.nilFunc,.nilFunc,0,false,false⟩
structure Rc0 (rb0 m:Nat) (ba:Option Addr) (fv:Nat->Value) (Bs:Nat) (Post:Value->World->Prop) (cs:List Frame) (J:Nat->Gh->Rn->World->Prop):Prop where
 sl:SL ba m
 fn:∀i,i<m->fv i= .nilFunc\/∃f fn caps,fv i= .func (.func f) #[] caps/\prog.funcs[f]? =some fn/\fn.body.isSome=true/\(fn.name== "runtime.NumGoroutine")=false
 mem:∀i X R w,J i X R w->L4 w Bs R/\R.rb=rb0/\R.cl.length=i/\R.m=m/\Bs <=w.heap.size/\X.c9 w.heap.size/\∀j,j<m->w.cell? ⟨ab ba,ao ba+j*1,none⟩=some (fv j)
 nil:∀i X R w w' a n cb rc,i<m->J i X R w->fv i= .nilFunc->w.heap.size <=cb->w.heap.size <=rc->Rg R.fp w.heap.size w w' Bs {R with ca:=a,cc:=n,cl:=R.cl ++ [Z3 cb rc],ends:=R.ends.set i 1}->J (i+1) (X.lower cb) {R with ca:=a,cc:=n,cl:=R.cl ++ [Z3 cb rc],ends:=R.ends.set i 1} w'
 go:∀i X R w w' a n cb rc,i<m->J i X R w->fv i≠.nilFunc->w.heap.size <=cb->w.heap.size <=rc->cb≠rc->ChanAt w' rc->Rg R.fp w.heap.size w w' Bs {R with ca:=a,cc:=n,cl:=R.cl ++ [Z3 cb rc]} ->
  X.O2=some ⟨rb0,8⟩/\X.pend=0/\X.cap<65536/\X.dn=0/\X.stay 0=[(⟨R.rb,7,none⟩,.chan (some R.yb))]/\(X.N7 R.yb/\∀i s2,X.D1 i=some s2->s2.ch≠R.yb) /\
  ∀me0,(∀X' R' u v,J (i+1) X' R' u->Fin prog Post X' 0 (Go.Conc.served me0 v) u)->Fin prog Post (Gh.hire {X.lower cb with pend:=1,cap:=X.cap+1,dn:=0} ⟨R.yb,.i 0,me0⟩) X.n (born prog (dcall 106 #[.p cb,fv i])) w'
 fin:∀X R w,J m X R w->∀fr,fr.fn=76->Leaves prog fr w (.returned (.tuple #[]))->Fin prog Post X 0 (G fr cs) w
theorem Xq0 (x0:Int) (x1:Option Addr) (x2:Option Nat):prog.built 149 [(0,.i x0),(1,.pointer x1),(2,.chan x2)]=some #[.i x0,.pointer x1,.chan x2,.i 0,.i 0,.i 0,.nilFunc,.nilFunc,.i 0,.bool false,.bool false]:=by kernel_rfl
set_option maxRecDepth 20000 in
theorem Gs0 {rb0 m:Nat} {ba:Option Addr} {fv:Nat->Value} {Bs:Nat} {Post:Value->World->Prop} {cs:List Frame} {J:Nat->Gh->Rn->World->Prop} (hE:Rc0 rb0 m ba fv Bs Post cs J) (hm1:m <=1000) {bc:Nat}:∀(k i:Nat),i+k=m->∀X R w1,J i X R w1->∀e:Env,e 0= .p rb0->e 7= .slice ba m bc->e 8= .i (m:Int)->e 9= .i (i:Int)->ZA (Fin prog Post X 0) 50 (base 76) cs e [.code Aq0,.inLoop Aq0,.inBlock 0] w1:=by
 intro k
 induction k with
 |zero=>
  intro i hk X R w1 hJ e s0 s7 s8 s9;obtain⟨hM,B9,hlen,hRm,hBs,hU,T9⟩:=hE.mem _ _ _ _ hJ;letI:Ctx prog:=M1 prog true;refine U282 ?_;intro hZ hb;rw[<- B9]at s0;refine U162 ?_;have hg:=hM.rg;refine U86 ?_;refine U245 ?_;refine ZA.done hZ ?_;obtain rfl:i=m:=by omega
  exact ZA.leaves (fn:=Tryz.f76) (f:=76) rfl func76 rfl (hE.fin X R w1 hJ)
 |succ k ih=>
  intro i hk X R w1 hJ e s0 s7 s8 s9;obtain⟨hM,B9,hlen,hRm,hBs,hU,T9⟩:=hE.mem _ _ _ _ hJ;letI:Ctx prog:=M1 prog true;refine U282 ?_;intro hZ hb;rw[<- B9]at s0;refine U162 ?_;have hg:=hM.rg;have H2:i<m:=by omega
  refine U86 ?_;refine U280 ?_;refine U171 ?_;refine L.va (M5 (i:=i) rfl rfl underlying90 Vr0 hE.sl H2) ?_;refine L.va (E0 (v:=fv i) rfl underlying73 rfl (T9 i H2)) ?_;refine L.va (et0 rfl) ?_;refine L.va dh0 ?_;refine U0 ?_;refine U171 ?_;refine L.va (K3 rfl) ?_;refine L.makeChan rfl underlying147 ⟨_,sz4⟩ (fun w2 j2 Z5 Ci0=>?_);obtain⟨rc,hrc⟩:∃rc,rc=w1.heap.size:=⟨_,rfl⟩
  have lrc:w1.heap.size <=rc:=Nat.le_of_eq hrc.symm;rw[<- hrc]at Z5⊢;have hg:=hg.A0 j2;refine L.va (N3 (parts:=[(0,.tmp 14),(1,.tmp 15),(2,.tmp 16)]) rfl (Xq0 (i:Int) ((pt R.rb)) (some rc))) ?_;refine L.box (cs:=(Z3 0 rc).cells R.rb i) rfl rfl (fun w3 cb F=>?_);have lcb:w1.heap.size <=cb:=by have:=F.here;have:=j2.size;omega
  have B3:cb≠rc:=by have:=F.here;omega
  have hg:=hg.A0 F.below;have Z5:=Z5.A0 F.below;have hX:=T3 F.blk;have hBs:=Nat.le_trans hBs (Nat.le_trans j2.size F.below.size);clear F j2;refine U274 ?_;have hfb:∀k,R.fp k->k≠cb:=fun k hk e=>by have:=hM.lt hk;omega
  refine ZA.freeze (f:=(0,3)) (hU.av0 lcb) hX ?_;have hg:=hg.fresh ((Z3 0 rc).cells R.rb i) 149 (0,3) hfb lcb;have Z5:ChanAt (J1 w3 cb ((Z3 0 rc).cells R.rb i) 149 (0,3)) rc:=Z5.grown (Y1 _ _ _ _ _) (fun r e=>by cases e;exact⟨_,_,_,hX⟩);have hX:I1 (J1 w3 cb ((Z3 0 rc).cells R.rb i) 149 (0,3)) cb ((Z3 cb rc).cells R.rb R.cl.length) 149 (0,3):=by rw[hlen];exact V4 hX _ _ _
  rw[<- x5 (w:=w3) (b:=cb) (cs:=(Z3 0 rc).cells R.rb i) (T:=149) (f:=(0,3))]at hBs;generalize J1 w3 cb ((Z3 0 rc).cells R.rb i) 149 (0,3)=w at *;have hZ:Ctx.Zs prog (Fin prog Post (X.lower cb) 0):=D4;refine U48 ?_;refine U152 ?_;refine L.va (E0 rfl underlying151 rfl (hg.m.run.F0 0 (v:=.slice R.ca R.cl.length R.cc) rfl)) ?_;refine L.va (K3 rfl) ?_;refine L.lf0 (cs:=#[.p cb]) rfl rfl underlying151 Ft0 rfl ⟨_,Vs0⟩ (by decide) (fun w b25 F25=>?_);have hBs:=Nat.le_trans hBs F25.below.size;have hg:=hg.A0 F25.below;have Z5:=Z5.A0 F25.below;have hX:=hX.A0 F25.below;have ik0:=F25.blk;have hX0:=hX;have hR:=hg.m.run;refine L.ts0 (B:=Bs) (m:=1) rfl rfl underlying151 Qs0 rfl (by decide) hg.m.cls (news:=[.p cb]) rfl (fun j u hj=>by
   rw[Addr.add_lit]
   match j,hj with
   |0,hj=>cases hj;exact ik0.F0 0 rfl) (fun u hu=>by simp only[List.mem_cons,List.not_mem_nil,or_false]at hu;subst hu;rfl) (by omega) (by omega) hBs (fun a26 c26 w2 hO J3 hli=>?_)
  have Z5:=Z5.grown J3 (Le0 hg.m.cls);have hX:=True.intro;have hR:=H3 hR J3 (K6 hg.m.cls (by decide));refine L.va (u1 rfl) ?_;refine L.va (K0 rfl underlying153 rfl Fw0 (by decide)) ?_;refine L.dg1 hg (Z3 cb rc) hX0 (.inr lcb) (by rw[hlen,hRm];exact H2) J3 hO hli rfl rfl Fw0 (fun w hg Xr0=>?_);have Z5:=Z5.grown Xr0 (fun r e=>by cases e;exact⟨_,_,_,hR⟩);clear Xr0 J3 hO hli;refine U19 ?_;refine ZA.seq hZ ?_;by_cases Bs0:fv i= .nilFunc
  ·refine ZA.W hZ hb ?_;refine U166 ?_;refine L.va (C7 (v:=fv i) (b:=true) rfl (.inl ⟨Bs0,rfl⟩) rfl underlying73 ⟨_,_,_,rfl⟩) ?_;refine U273 ?_;refine U1 ?_;refine U247 ?_;refine L.va (K0 rfl underlying30 rfl Fo0 (by decide)) ?_;refine L.va (E0 rfl underlying23 rfl (hg.m.run.F0 3 (v:=.slice (pt R.eb) R.m R.m) rfl)) ?_;refine L.va (Y3 rfl) ?_;refine L.va (p9 (i:=i) rfl rfl underlying23 sz3 (by rw[hRm];exact H2)) ?_;refine L.stE (i:=i) hg (by show i<R.m;rw[hRm];exact H2) rfl rfl sz3 (fun w hg J3=>?_);clear J3;refine U0 ?_;refine ZA.exit hZ rfl ?_;refine U114 ?_;exact ih (i+1) (by omega) _ _ w (hE.nil i X R w1 w _ _ cb rc H2 hJ Bs0 lcb lrc hg) _ (by rw[<- B9];rfl) rfl rfl rfl
  ·refine ZA.W hZ hb ?_;refine U166 ?_;obtain⟨f,fn,caps,hfv,hff,hbd,hnm⟩:=(hE.fn i H2).resolve_left Bs0;refine L.va (C7 (v:=fv i) (b:=false) rfl (.inr ⟨_,_,_,hfv,rfl⟩) rfl underlying73 ⟨_,_,_,rfl⟩) ?_;refine U118 ?_;obtain⟨Jy0,ix0,ey0,g9,R2,hsh,hgo⟩:=hE.go i X R w1 w _ _ cb rc H2 hJ Bs0 lcb lrc B3 Z5 hg;refine ZA.upto hZ hb 3 rfl rfl (R:=fun e' w'=>ZA _ _ _ _ e' _ w') ?_ (fun _ _ h=>h);refine U267 ?_;refine U515 ?_;refine ZA.call (i:=3) (rest:=[]) hZ hb (f:=66) (args:=#[.pointer (some ⟨R.rb,8,none⟩),.i 1]) rfl rfl (E4 rfl rfl func66 rfl Lb0 rfl) (fun a ha=>?_);have hXe:X.lower cb={X.lower cb with dn:=0}:=by show X.lower cb={X.lower cb with dn:=0};cases X;simp only[Gh.lower]at g9⊢;subst g9;rfl
   rw[hXe,B9];refine Fin.Dp0 (G:=⟨rb0,8⟩) (X:=X.lower cb) (K:=fun g'=>g'=_) Jy0 ix0 ey0 (fun g' L6=>?_) _ _ _ (Op0 ⟨rb0,8⟩ (fun g'=>g'=_) rfl);subst L6;refine ZA.home (i:=3) rfl rfl ha ?_;have hZ:Ctx.Zs prog (Fin prog Post {X.lower cb with pend:=1,cap:=(X.lower cb).cap+1,dn:=0} 0):=D4;refine U108 ?_;refine ZA.upto hZ hb 2 rfl rfl (R:=fun e' w'=>ZA _ _ _ _ e' _ w') ?_ (fun _ _ h=>h);refine U107 ?_;refine L.va ci0 ?_;refine U0 ?_;refine ZA.spawn (i:=2) (rest:=[]) (gr:=⟨rb0,8⟩) (vs:=#[.p cb,fv i]) (st:=[(⟨R.rb,7,none⟩,.chan (some R.yb))]) (K:=fun s=>s.ch=R.yb/\s.z= .i 0/\∀X' R' u v,J (i+1) X' R' u->Fin prog Post X' 0 (Go.Conc.served s.me v) u) (ft:=60) hb rfl (Wg.Y6 (vl:=[.p cb,fv i]) rfl) rfl rfl Jy0 R2 ?_ ?_ ?_
   ·have hY:=tv0 (P:=prog) (main:=true) (l:=[((⟨R.rb,7,none⟩:Addr),Value.chan (some R.yb))]) (K:=fun s=>s.ch=R.yb/\s.z= .i 0/\∀X' R' u v,J (i+1) X' R' u->Fin prog Post X' 0 (Go.Conc.served s.me v) u);refine U260 ?_;refine U228 ?_;refine U217 ?_;refine G0.D1 (E:=3) (z:=.i 0) hb underlying150 zr3 rfl (fun me hs=>⟨rfl,rfl,?_⟩) rfl;intro X' R' w v hJ';refine hs.go ?_;have hZ:Ctx.Zs prog (Fin prog Post X' 0):=D4;refine U258 ?_;refine U114 ?_;exact ih (i+1) (by omega) X' R' w hJ' _ (by rw[<- B9];rfl) rfl rfl rfl
   ·rintro s2 ⟨h1,_,_⟩;rw[h1];exact hsh
   ·rintro⟨ch,z,me⟩ ⟨h1,h2,h3⟩;cases h1;cases h2;exact hgo me h3
set_option maxRecDepth 20000 in
theorem Lj0 {rb0 m:Nat} {ba:Option Addr} {fv:Nat->Value} {Bs:Nat} {Post:Value->World->Prop} {cs:List Frame} {J:Nat->Gh->Rn->World->Prop} (hE:Rc0 rb0 m ba fv Bs Post cs J) (hm1:m <=1000) {bc:Nat} {X:Gh} {R:Rn} {w:World} (hJ:J 0 X R w):Fin prog Post X 0 (G (Frame.enter prog 76 #[.p rb0,.slice ba m bc] .normal) cs) w:=by
 obtain⟨hM,B9,hlen,hRm,hBs,hU,T9⟩:=hE.mem _ _ _ _ hJ;letI:Ctx prog:=M1 prog true;refine U282 ?_;intro hZ hb;rw[enter_at _ func76 rfl];rw[<- B9];have hg:=hM.rg;refine(?_:ZA (Fin prog Post X 0) 50 (base 76) cs (Vc.J7 #[.p R.rb,.slice ba m bc]) [.code (Tryz.f76.body.getD .skip)] w) _ (j6 _ _ rfl);refine U47 ?_;refine L.va (H6 rfl underlying90 rfl) ?_;refine U174 ?_;refine U169 ?_;exact Gs0 hE hm1 m 0 (by omega) X R w hJ _ (by rw[<- B9];rfl) rfl rfl rfl
end
section
attribute [local irreducible] KK
noncomputable def Ar0:Code:=match Tryz.f48.body with|some (.seq _ (.seq _ (.seq _ (.seq _ (.seq _ (.seq _ (.seq _ (.seq (.seq _ (.block _ (.loop c))) _))))))))=>c|_=>.skip
noncomputable def tz0:Code:=match Tryz.f48.body with|some (.seq _ (.seq _ (.seq _ (.seq _ (.seq _ (.seq _ (.seq _ (.seq _ c))))))))=>c|_=>.skip
def rn0 (rb yb eb wb m:Nat):Rn:=⟨rb,yb,eb,wb,m,none,0,[],none,0,[],none,0,[],List.replicate m 0,List.replicate m sp0,false,0⟩
def V9 (e:Int) (n:Nat):Nat:=(e%(n:Int)).toNat
theorem Cj0 (e:Int) {n:Nat} (hn:0<n):V9 e n<n:=by
 refine U544 ?_;intro h1 h2;unfold V9;omega
theorem dj1 (e:Int) {n:Nat} (hn:0<n):(e.tmod (n:Int)+(n:Int)).tmod (n:Int)=((V9 e n:Nat):Int):=by
 refine U544 ?_;intro h1 h2;have h3:-(n:Int)<e.tmod (n:Int):=by
  have:=Int.lt_tmod_of_pos e (b:=(n:Int)) (by omega);omega
 have h4:((V9 e n:Nat):Int)=e%(n:Int):=by unfold V9;omega
 rw[h4,Int.tmod_eq_emod_of_nonneg (by omega),Int.add_emod_right];rw[Int.tmod_eq_emod];split
 ·simp
 ·rw[Int.sub_emod,Int.emod_emod];have:(((n:Int).natAbs:Int))%(n:Int)=0:=by simp
  rw[this,Int.sub_zero,Int.emod_emod]
theorem Lk0 (e:Int) {n:Nat} (hn:0<n) (h:n <=1000):-1000 <=e.tmod (n:Int)/\e.tmod (n:Int) <=1000:=by
 have h1:=Int.lt_tmod_of_pos e (b:=(n:Int)) (by omega);have h2:=Int.tmod_lt_of_pos e (b:=(n:Int)) (by omega);omega
structure Gt0 (rb0 m sn tb:Nat) (ba sa:Option Addr) (fv:Nat->Value) (sc:Nat->Int) (Bs:Nat) (Post:Value->World->Prop) (JB J2 JE:Nat->Gh->Rn->World->Prop) (rr:Nat->Nat->Bool):Prop where
 beg:∀cs,(∀X R w,JB m X R w->∀fr,fr.fn=76->Leaves prog fr w (.returned (.tuple #[]))->Fin prog Post X 0 (G fr cs) w)->Rc0 rb0 m ba fv Bs Post cs JB
 b2s:∀X R w,JB m X R w->J2 0 X R w
 ssl:SL sa sn
 mem:∀n X R w,J2 n X R w->L4 w Bs R/\R.rb=rb0/\R.cl.length=m/\Bs <=w.heap.size/\R.evs.length <=1000000/\R.used <=1000000/\(∀(i:Nat) (c:CB),R.cl[i]? =some c->c.N1 <=1000000)/\∀j,j<sn->w.cell? ⟨ab sa,ao sa+j*1,none⟩=some (.i (sc j))
 A0:∀n X R w w',J2 n X R w->Below w.heap.size w w'->J2 n X R w'
 rdy:∀n X R w,J2 n X R w->∀(i:Nat) (c:CB),R.cl[i]? =some c->c.wt=true->@tu0 (M1 prog true) w c.rf (rr n i)
 pick:∀n X R w i c,J2 n X R w->n<sn->(rdl R.cl (rr n) m)[V9 (sc n) (rdl R.cl (rr n) m).length]? =some i->R.cl[i]? =some c->∃g z1 me1,g≠0/\X.D1 g=some ⟨c.rc,z1,me1⟩/\X.dn=0/\X.stay 0=[(⟨R.rb,7,none⟩,.chan (some R.yb))]/\(X.N7 R.yb/\∀i s2,i≠g->X.D1 i=some s2->s2.ch≠R.yb) /\
  ∀w' a nn me0,Rg R.fp w.heap.size w w' Bs {R with ea:=a,ec:=nn,evs:=R.evs ++ [(i,c.sp)],used:=R.used+1,cl:=R.cl.set i {c with N1:=c.N1+1,wt:=false}}->(∀X' R' u v,J2 (n+1) X' R' u->Fin prog Post X' 0 (Go.Conc.served me0 v) u)->Fin prog Post (X.pass 0 g (some ⟨R.yb,.i 0,me0⟩)) g (Go.Conc.served me1 (.bool true)) w'
 toE:∀n X R w w' b,J2 n X R w->(n=sn\/rdl R.cl (rr n) m=[])->b=(R.cl.any (·.wt)&&(rdl R.cl (rr n) m).isEmpty)->Rg R.fp w.heap.size w w' Bs {R with stuck:=b}->JE 0 X {R with stuck:=b} w'
 en:∀ca cc cs,(∀X R w,JE m X R w->R.ca=ca->R.cc=cc->∀fr,fr.fn=80->Leaves prog fr w (.returned (.tuple #[]))->Fin prog Post {X with pend:=0,cap:=0,dn:=0} 0 (G fr cs) w)->Li0 rb0 m ca cc Bs Post cs (fun i X R w=>JE i X R w/\R.ca=ca/\R.cc=cc)
 dk1:∀X R w,JE m X R w->L4 w Bs R/\R.rb=rb0/\I1 w tb #[.slice none 0 0,.slice none 0 0,.slice none 0 0,.slice none 0 0,.bool false,.i 0] 30 (0,0)
abbrev Gu0 (R:Rn):Value:=.agg #[.slice R.ea R.evs.length R.ec,.slice R.na R.N2.length R.nc,.slice (pt R.eb) R.m R.m,.slice (pt R.wb) R.m R.m,.bool R.stuck,.i (R.used:Int)]
structure Ll0 (m tb:Nat) (Post:Value->World->Prop) (cs:List Frame) (JE:Nat->Gh->Rn->World->Prop):Prop where
 ret:∀X R w w' fr,JE m X R w->w.grownBy w' (some tb)->fr.fn=48->Leaves prog fr w' (.returned (.tuple #[Gu0 R,.i 0]))->Fin prog Post {X with pend:=0,cap:=0,dn:=0} 0 (G fr cs) w'
theorem lr0 {Z:Goroutine->World->Prop} {n:Nat} {cs:List Frame} {e:Env} {w:World} {t u b:Nat} {T E:TypeId} {fn:Func} {f:FuncId} {cells:Array Value} {d:TypeDesc} {v:Value} (hf:prog.funcs[f]? =some fn) (hr:fn.results=#[.cell t T,.tmp u]) (he:e t= .p b) (hu0:e u=v) (hT:prog.underlying T=some d) (hu:Q9 d=false) (hB:S0 w b cells E) (hs:(prog.info? T).map (·.size)=some cells.size)
  (h:∀fr,fr.fn=f->Leaves prog fr w (.returned (.tuple #[.agg cells,v]))->Z (G fr cs) w):ZR Z n (base f) cs e w:=by
 intro todo a ha;letI:Ctx prog:=M1 prog true;have h1:ends prog fn (fun v' w'=>v'= .tuple #[.agg cells,v]/\w'=w) .ret e w:=ends.Kt0 (.inr rfl) hr he hT hu hs hB ⟨by rw[hu0],rfl⟩;obtain⟨_,v',h2,h3,h4⟩:=h1;subst h3;refine h _ rfl ⟨rfl,ha.defers,rfl,fn,hf,?_⟩;exact h2 _ ha.get
noncomputable def Lm0:Code:=match tz0 with| .seq _ (.seq _ c)=>c|_=>.skip
theorem Gv0 {l:List Nat} (n:Nat) (h:l.length=n:=by rfl):decide (((n:Nat):Int)=0)=l.isEmpty:=by
 subst h;cases l <;> simp
 omega
theorem Rd0 {cl:List CB} {r:Nat->Bool} {m j i:Nat} (h:(rdl cl r m)[j]? =some i):∃c,cl[i]? =some c:=by
 have:=List.mem_of_getElem? h;simp only[rdl,List.mem_filter,Bool.and_eq_true]at this;cases hc:cl[i]? with
 |none=>rw[hc]at this;simp at this
 |some c=>exact⟨c,rfl⟩
theorem Gw0 {cl:List CB} {r:Nat->Bool} {m j i:Nat} {c:CB} (h:(rdl cl r m)[j]? =some i) (hc:cl[i]? =some c):((rdl cl r m).map (Gd0 cl))[j]? =some (.p c.cb):=by
 rw[List.getElem?_map,h];simp[Gd0,hc]
set_option maxRecDepth 20000 in
theorem Ln0 {rb0 m sn tb:Nat} {ba sa:Option Addr} {fv:Nat->Value} {sc:Nat->Int} {Bs:Nat} {Post:Value->World->Prop} {cs:List Frame} {JB J2 JE:Nat->Gh->Rn->World->Prop} {rr:Nat->Nat->Bool} (hE:Gt0 rb0 m sn tb ba sa fv sc Bs Post JB J2 JE rr) (hT:Ll0 m tb Post cs JE) {X:Gh} {R:Rn} {w:World} (hJ:JE m X R w) {e:Env} {ops:Array Oper} (s6:e 6= .p rb0) (s4:e 4= .p tb):ZA (Fin prog Post {X with pend:=0,cap:=0,dn:=0} 0) 83 (base 48) cs e [.inRegion ops [],.code Lm0] w:=by
 obtain⟨hM,B9,hT0⟩:=hE.dk1 _ _ _ hJ;letI:Ctx prog:=M1 prog true;have hZ:Ctx.Zs prog (Fin prog Post {X with pend:=0,cap:=0,dn:=0} 0):=D4;have hb:=Y0 48;rw[<- B9]at s6;rw[L1 s6,L1 s4];clear s6 s4;refine ZA.l3 hZ ?_;refine U1 ?_;refine U247 ?_;refine L.va (E1 (cs:=[.slice R.ea R.evs.length R.ec,.slice R.na R.N2.length R.nc,.slice (pt R.eb) R.m R.m,.slice (pt R.wb) R.m R.m,.bool R.stuck,.i (R.used:Int)]) rfl underlying30 rfl if0 rfl (hM.run.N5 rfl)) ?_;refine L.put (b:=tb) (o:=0) (s:=6) (vs:=[.slice R.ea R.evs.length R.ec,.slice R.na R.N2.length R.nc,.slice (pt R.eb) R.m R.m,.slice (pt R.wb) R.m R.m,.bool R.stuck,.i (R.used:Int)]) #[.slice R.ea R.evs.length R.ec,.slice R.na R.N2.length R.nc,.slice (pt R.eb) R.m R.m,.slice (pt R.wb) R.m R.m,.bool R.stuck,.i (R.used:Int)] rfl rfl rfl if0 rfl rfl hT0 (Nat.le_of_ble_eq_true rfl) rfl (fun w2 hB J3 B2=>?_);refine U170 ?_;refine ZA.ret hZ ?_;exact lr0 (u:=5) (v:=.i 0) func48 rfl rfl rfl underlying30 rfl hB if0 (fun fr h8 h9=>hT.ret X R w w2 fr hJ J3 h8 h9)
set_option maxRecDepth 20000 in
theorem vy0 {rb0 m sn tb:Nat} {ba sa:Option Addr} {fv:Nat->Value} {sc:Nat->Int} {Bs:Nat} {Post:Value->World->Prop} {cs:List Frame} {JB J2 JE:Nat->Gh->Rn->World->Prop} {rr:Nat->Nat->Bool} (hE:Gt0 rb0 m sn tb ba sa fv sc Bs Post JB J2 JE rr) (hT:Ll0 m tb Post cs JE) (hm1:m <=16) (_hs1:sn <=1000000) {n:Nat} {X:Gh} {R:Rn} {w:World} (hJ:J2 n X R w) (hn:n=sn\/rdl R.cl (rr n) m=[]) {e:Env} (s6:e 6= .p rb0) (s4:e 4= .p tb):ZA (Fin prog Post X 0) 83 (base 48) cs e [.code tz0] w:=by
 obtain⟨hM,B9,hlen,hBs,hev,hus,hpk,T9⟩:=hE.mem _ _ _ _ hJ;letI:Ctx prog:=M1 prog true;refine U173 ?_;intro hZ hb;rw[<- B9]at s6;rw[L1 s6,L1 s4];clear s6 s4;have hg:=hM.rg;refine U48 ?_;refine L.va (K3 rfl) ?_;refine L.call (D2 rfl func79 rfl ct1 rfl) (xy0 R Bs w hM (by omega)) ?_;rintro _ w1 ⟨rfl,hw⟩;refine U13 ?_;by_cases Lo0:R.cl.any (·.wt)=true
 ·rw[Lo0];refine U377 ?_;refine L.on rfl ?_;refine L.call (D2 rfl func77 rfl Wo0 rfl) (qy0 R Bs w hM (by omega) (rr n) (hE.rdy n X R w hJ)) ?_;rintro _ w2 ⟨la,lc,rfl,hO,j2⟩;rw[hlen];have hg:=hg.A0 j2;refine L.on rfl ?_;refine L.va (H6 rfl underlying151 rfl) ?_;refine U221 ?_;refine L.va (Q7 rfl) ?_;refine U522 ?_;refine L.stR (o:=5) (vs:=[.bool (decide ((((rdl R.cl (rr n) m).length:Nat):Int)=0))]) hg (decide ((((rdl R.cl (rr n) m).length:Nat):Int)=0)) R.used rfl rfl rfl sz4 rfl rfl (by decide) rfl (fun w hg J3=>?_);clear J3;refine U0 ?_;have hJE:=hE.toE n X R _ w _ hJ hn (by rw[Lo0,Bool.true_and];exact Gv0 _) hg;refine ZA.seq hZ ?_;refine ZA.upto hZ hb 1 rfl rfl (R:=fun e' w'=>ZA _ _ _ _ e' _ w') ?_ (fun _ _ h=>h);refine U107 ?_;refine U467 ?_;intro a ha;rw[B9];refine Ap0 (hE.en R.ca R.cc _ (fun X' R' u hJ' hca hcc fr h8 h9=>?_)) (by omega) ⟨hJE,rfl,rfl⟩;exact U474
 ·rw[show R.cl.any (·.wt)=false by simpa using Lo0];refine U272 ?_;refine L.va (R7 rfl) ?_;refine U522 ?_;refine L.stR (o:=5) (vs:=[.bool false]) hg false R.used rfl rfl rfl sz4 rfl rfl (by decide) rfl (fun w hg J3=>?_);clear J3;refine U0 ?_;have hJE:=hE.toE n X R _ w _ hJ hn (by rw[show R.cl.any (·.wt)=false by simpa using Lo0];rfl) hg;refine ZA.seq hZ ?_;refine ZA.upto hZ hb 1 rfl rfl (R:=fun e' w'=>ZA _ _ _ _ e' _ w') ?_ (fun _ _ h=>h);refine U107 ?_;refine U467 ?_;intro a ha;rw[B9];refine Ap0 (hE.en R.ca R.cc _ (fun X' R' u hJ' hca hcc fr h8 h9=>?_)) (by omega) ⟨hJE,rfl,rfl⟩;exact U474
set_option maxRecDepth 20000 in
theorem Gx0 {rb0 m sn tb:Nat} {ba sa:Option Addr} {fv:Nat->Value} {sc:Nat->Int} {Bs:Nat} {Post:Value->World->Prop} {cs:List Frame} {JB J2 JE:Nat->Gh->Rn->World->Prop} {rr:Nat->Nat->Bool} (hE:Gt0 rb0 m sn tb ba sa fv sc Bs Post JB J2 JE rr) (hT:Ll0 m tb Post cs JE) (hm1:m <=16) (hs1:sn <=1000000) {scp:Nat}:∀(k n:Nat),n+k=sn->∀X R w,J2 n X R w->∀e:Env,e 6= .p rb0->e 39= .slice sa sn scp->e 40= .i (sn:Int)->e 41= .i (n:Int)->e 4= .p tb->e 1= .slice sa sn scp->ZA (Fin prog Post X 0) 83 (base 48) cs e [.code Ar0,.inLoop Ar0,.inBlock 0,.code tz0] w:=by
 intro k
 induction k with
 |zero=>
  intro n hk X R w hJ e s6 s39 s40 s41 s4 s1;obtain⟨hM,B9,hlen,hBs,hev,hus,hpk,T9⟩:=hE.mem _ _ _ _ hJ;letI:Ctx prog:=M1 prog true;refine U173 ?_;intro hZ hb;rw[<- B9]at s6;refine U461 ?_;refine U86 ?_;refine U245 ?_;obtain rfl:n=sn:=by omega
  exact vy0 hE hT hm1 hs1 hJ (.inl rfl) (by rw[<- B9];rfl) rfl
 |succ k ih=>
  intro n hk X R w hJ e s6 s39 s40 s41 s4 s1;obtain⟨hM,B9,hlen,hBs,hev,hus,hpk,T9⟩:=hE.mem _ _ _ _ hJ;letI:Ctx prog:=M1 prog true;refine U173 ?_;intro hZ hb;rw[<- B9]at s6;refine U461 ?_;have H2:n<sn:=by omega
  refine U86 ?_;refine U280 ?_;refine U1 ?_;refine L.va (M5 (i:=n) rfl rfl underlying23 sz3 hE.ssl H2) ?_;refine L.va (E0 (v:=.i (sc n)) rfl underlying3 rfl (T9 n H2)) ?_;refine U170 ?_;refine U48 ?_;refine L.call (D2 rfl func77 rfl Wo0 rfl) (qy0 R Bs w hM (by omega) (rr n) (hE.rdy n X R w hJ)) ?_;rintro _ w2 ⟨la,lc,rfl,hO,j2⟩;rw[hlen]at hO⊢;have hJ:=hE.A0 n X R w w2 hJ j2;clear hM hBs T9 j2;clear hev hus hpk;obtain⟨hM,_,_,hBs,hev,hus,hpk,T9⟩:=hE.mem _ _ _ _ hJ;refine L.va (ak0 rfl) ?_;refine U19 ?_;refine U545 ?_;refine L.va (n3 rfl rfl) ?_;refine U0 ?_;by_cases hnl:(rdl R.cl (rr n) m).length=0
  ·refine ZA.J4 hZ (rb (decide_eq_true (by omega))) ?_;refine ZA.exit hZ rfl ?_;exact vy0 hE hT hm1 hs1 hJ (.inr (List.eq_nil_of_length_eq_zero hnl)) (by rw[<- B9];rfl) rfl
  ·refine ZA.O5 hZ (rb (decide_eq_false (by omega))) ?_;refine ZA.skip hZ ?_;refine U545 ?_;refine U170 ?_;have hln:(rdl R.cl (rr n) m).length <=16:=Nat.le_trans (xx0 m) hm1;have htb:=Lk0 (sc n) (n:=(rdl R.cl (rr n) m).length) (by omega) (by omega);have K9:=Cj0 (sc n) (n:=(rdl R.cl (rr n) m).length) (by omega);obtain⟨i,hi⟩:∃i,(rdl R.cl (rr n) m)[V9 (sc n) (rdl R.cl (rr n) m).length]? =some i:=⟨_,List.getElem?_eq_getElem K9⟩
   obtain⟨c,hc⟩:=Rd0 hi;refine ZA.upto hZ hb 11 rfl rfl (R:=fun e' w'=>ZA _ _ _ _ e' _ w') ?_ (fun _ _ h=>h);refine U107 ?_;refine U131 ?_;refine L.va (Y3 rfl) ?_;refine L.va (pz0 rfl rfl (by omega)) ?_;refine L.va (Y3 rfl) ?_;refine L.va (ib0 rfl rfl (by omega)) ?_;refine L.va (Y3 rfl) ?_;refine L.va (v:=.i ((V9 (sc n) (rdl R.cl (rr n) m).length:Nat):Int)) (by rw[<- dj1 (sc n) (n:=(rdl R.cl (rr n) m).length) (by omega)];exact pz0 rfl rfl (by omega)) ?_;refine L.va (M5 (i:=V9 (sc n) (rdl R.cl (rr n) m).length) rfl rfl underlying151 Ft0 hO.sl K9) ?_;refine L.va (E0 (v:=.p c.cb) rfl underlying91 rfl (by rw[hO.off,Nat.zero_add,Nat.mul_one];exact hO.cell (Gw0 hi hc))) ?_;refine U0 ?_;obtain⟨g,z1,me1,N8,hX0,g9,R2,hsh,E6⟩:=hE.pick n X R w2 i c hJ H2 hi hc;refine ZA.call (i:=11) (rest:=[]) hZ hb (f:=78) (args:=#[.p R.rb,.p c.cb]) rfl rfl (E4 rfl rfl func78 rfl cr1 rfl) (fun a ha=>?_);refine Gp0 hM.rg hBs hc hev (hpk i c hc) hus N8 hX0 g9 R2 hsh (fun w' a' nn me0 hg hme=>E6 w' a' nn me0 hg (fun X' R' u v hJ'=>hme _ D4 u v fun fr h8 h9=>?_));refine ZA.back (ax0 prog Post X' 0) (i:=11) rfl rfl ha h9 ?_;have hZ:Ctx.Zs prog (Fin prog Post X' 0):=D4;refine U258 ?_;refine U114 ?_;exact ih (n+1) (by omega) X' R' u hJ' _ (by rw[<- B9];rfl) rfl rfl rfl rfl rfl
end
section
attribute [local irreducible] KK
theorem Gy0 (m:Nat):(Array.replicate (m*1) (Value.i 0))=((List.replicate m (0:Int)).map (Value.int .i64)).toArray:=by
 rw[Nat.mul_one];apply Array.toList_inj.1;simp
theorem Gz0 (m:Nat):(Array.replicate (m*3) (Value.i 0))=((List.replicate m sp0).flatMap spC).toArray:=by
 apply Array.toList_inj.1;simp only[Array.toList_replicate]
 induction m with
 |zero=>rfl
 |succ m ih=>
  rw[List.replicate_succ,List.flatMap_cons,<- ih,Nat.succ_mul,Nat.add_comm (m*3) 3,<- List.replicate_append_replicate];rfl
structure Os0 (w0 w:World) (rb yb eb wb tb m:Nat):Prop where
 mem:L4 w w0.heap.size (rn0 rb yb eb wb m)
 low:Below w0.heap.size w0 w
 le:w0.heap.size <=rb/\w0.heap.size <=yb/\w0.heap.size <=eb/\w0.heap.size <=wb/\w0.heap.size <=tb
 yb:w.heap[yb]? =some nothing
 tb:I1 w tb #[.slice none 0 0,.slice none 0 0,.slice none 0 0,.slice none 0 0,.bool false,.i 0] 30 (0,0)
theorem Xs0 (x0:Option Nat):prog.built 153 [(2,.chan x0)]=some #[.slice none 0 0,.slice none 0 0,.slice none 0 0,.slice none 0 0,.slice none 0 0,.bool false,.i 0,.chan x0,.int .u64 0,.int .u32 0]:=by kernel_rfl
set_option maxRecDepth 20000 in
theorem Lp0 {ba sa:Option Addr} {m bc sn scp:Nat} {fv:Nat->Value} {sc:Nat->Int} {Post:Value->World->Prop} {cs:List Frame} {X:Gh} {w0:World} (hm1:m <=16) (hs1:sn <=262144) (hU:X.c9 w0.heap.size) (K9:∀b,w0.heap.size <=b->X.O4 b= .all) (ey0:X.cap=0)
  (Xt0:∀w4 rb yb eb wb tb,Os0 w0 w4 rb yb eb wb tb m->∃JB J2 JE rr,Gt0 rb m sn tb ba sa fv sc w0.heap.size Post JB J2 JE rr/\Ll0 m tb Post cs JE/\JB 0 (ty0 X rb yb 8) (rn0 rb yb eb wb m) w4) :
  Fin prog Post X 0 (G (Frame.enter prog 48 #[.slice ba m bc,.slice sa sn scp] .normal) cs) w0:=by
 letI:Ctx prog:=M1 prog true;refine U173 ?_;intro hZ hb;rw[enter_at _ func48 rfl];refine(?_:ZA (Fin prog Post X 0) 83 (base 48) cs (Vc.J7 #[.slice ba m bc,.slice sa sn scp]) [.code (Tryz.f48.body.getD .skip)] w0) _ (j6 _ _ rfl);have hb0:Below w0.heap.size w0 w0:=Below.refl _ _;refine U1 ?_;refine L.alloc (cs:=#[.slice none 0 0,.slice none 0 0,.slice none 0 0,.slice none 0 0,.bool false,.i 0]) Fq0 rfl (fun w b4 F4=>?_);have lt4:=F4.lq hb0.size;have hb0:=O0 hb0 F4.below;have l9:=F4.blk;refine L.va (et0 rfl) ?_;refine U19 ?_;refine U47 ?_;refine L.va (H6 rfl underlying90 rfl) ?_;refine L.va (vf0 rfl rfl) ?_;refine U538 ?_;refine U147 ?_;refine U47 ?_;refine L.va (H6 rfl underlying23 rfl) ?_;refine L.va (vf0 rfl rfl) ?_;refine U538 ?_;refine ZA.skip hZ ?_;refine U1 ?_;refine L.makeChan rfl underlying150 ⟨_,sz3⟩ (fun w1 j2 Z5 Re0=>?_);obtain⟨yb,hyb⟩:∃yb,yb=w.heap.size:=⟨_,rfl⟩
 have Rf0:w0.heap.size <=yb:=by rw[hyb];exact hb0.size
 rw[<- hyb]at Z5⊢;have hb0:=O0 hb0 j2;have l9:=l9.A0 j2;clear j2 Re0 hyb
 rename World=>w
 refine L.va (N3 (parts:=[(2,.tmp 19)]) rfl (Xs0 (some yb))) ?_;refine L.box (cs:=#[.slice none 0 0,.slice none 0 0,.slice none 0 0,.slice none 0 0,.slice none 0 0,.bool false,.i 0,.chan (some yb),.int .u64 0,.int .u32 0]) rfl rfl (fun w b21 F21=>?_);have Ha0:=F21.lq hb0.size;have hb0:=O0 hb0 F21.below;have l9:=l9.A0 F21.below;have Z5:=Z5.A0 F21.below;have be0:=F21.blk;refine U274 ?_;refine U48 ?_;refine U533 ?_;refine L.make (m:=m) rfl rfl underlying23 in3 (z0:=.i 0) rfl (by decide) (by omega) (by omega) (fun w b25 F25=>?_);have dl1:=F25.lq hb0.size;have hb0:=O0 hb0 F25.below;have l9:=l9.A0 F25.below;have Z5:=Z5.A0 F25.below;have be0:=be0.A0 F25.below;have ik0:=F25.blk;have ik0:S0 w b25 (Array.replicate (m*1) (.i 0)) 3:=ik0;refine U98 ?_;refine L.va (K0 rfl underlying30 rfl Fo0 (by decide)) ?_;refine L.pu 3 [.slice (pt b25) m m] #[.slice none 0 0,.slice none 0 0,.slice none 0 0,.slice (pt b25) m m,.slice none 0 0,.bool false,.i 0,.chan (some yb),.int .u64 0,.int .u32 0] Fo0 be0 (fun w C1 hg B2=>?_);refine U514 ?_;intro l9 Z5;have ik0:=ik0.other hg (S0.ne ik0 be0 (by decide));have hb0:=R3 hb0 hb0.size hg Ha0;have T5:=True.intro;have be0:=C1;clear T5;refine U0 ?_;refine U48 ?_;refine U533 ?_;refine L.make (m:=m) rfl rfl underlying28 bf1 (z0:=.i 0) rfl (by decide) (by omega) (by omega) (fun w b32 F32=>?_);have dm1:=F32.lq hb0.size;have hb0:=O0 hb0 F32.below;have l9:=l9.A0 F32.below;have Z5:=Z5.A0 F32.below;have be0:=be0.A0 F32.below;have ik0:=ik0.A0 F32.below;have Ck0:=F32.blk;have Ck0:S0 w b32 (Array.replicate (m*3) (.i 0)) 47:=Ck0;refine U98 ?_;refine L.va (K0 rfl underlying30 rfl Qo0 (by decide)) ?_;refine L.pu 4 [.slice (pt b32) m m] #[.slice none 0 0,.slice none 0 0,.slice none 0 0,.slice (pt b25) m m,.slice (pt b32) m m,.bool false,.i 0,.chan (some yb),.int .u64 0,.int .u32 0] Qo0 be0 (fun w C1 hg B2=>?_);refine U514 ?_;intro l9 Z5;have ik0:=ik0.other hg (S0.ne ik0 be0 (by decide));have Ck0:=Ck0.other hg (S0.ne Ck0 be0 (by decide));have hb0:=R3 hb0 hb0.size hg Ha0;have T5:=True.intro;have be0:=C1;clear T5;refine U0 ?_;have be0:S0 w b21 (#[.slice none 0 0,.slice none 0 0,.slice none 0 0,.slice (pt b25) m m,.slice (pt b32) m m,.bool false,.i 0,.chan (some yb)] ++ #[.int .u64 0,.int .u32 0]) 153:=be0;have B3:yb≠b21:=fun e=>by subst e;unfold ChanAt at Z5;unfold S0 at be0;rw[Z5]at be0;cases be0
 refine ZA.begin ey0 (hU.mono Ha0) (hU.mono Rf0) (K9 _ Ha0) (K9 _ Rf0) Z5 be0 (Nat.zero_lt_succ _) rfl ?_;show ZA (Fin prog Post (ty0 X b21 yb 8) 0) _ _ _ _ _ (J1 (K2 w yb nothing) b21 _ _ (7,8));have hX:X.c9 w0.heap.size:=hU;have hap:∀(b:Nat) (cs:Array Value) (T:TypeId),S0 w b cs T->T≠153->I1 (J1 (K2 w yb nothing) b21 #[.slice none 0 0,.slice none 0 0,.slice none 0 0,.slice (pt b25) m m,.slice (pt b32) m m,.bool false,.i 0,.chan (some yb)] 153 (7,8)) b cs T (0,0):=fun b cs T h hT=>by
  have h1:b≠b21:=S0.ne h be0 hT;have h2:yb≠b:=fun e=>by subst e;unfold ChanAt at Z5;unfold S0 at h;rw[Z5]at h;cases h
  unfold I1;rw[Z6 h1,D5 _ _ h2];exact h
 have dn1:Os0 w0 (J1 (K2 w yb nothing) b21 #[.slice none 0 0,.slice none 0 0,.slice none 0 0,.slice (pt b25) m m,.slice (pt b32) m m,.bool false,.i 0,.chan (some yb)] 153 (7,8)) b21 yb b25 b32 b4 m:=by
  have B2:b21<(K2 w yb nothing).heap.size:=by have:=be0.lt;simpa [K2]using this
  refine⟨⟨?_,Own.nil _ _ _ _,Own.nil _ _ _ _,Own.nil _ _ _ _,?_,?_,by simp[rn0],by simp[rn0],Nat.zero_le _,fun i c hc=>by simp[rn0]at hc⟩,⟨hb0.os,hb0.tape,hb0.output,by rw[x5];simpa [K2]using hb0.size,fun k hk=>?_⟩,⟨Ha0,Rf0,dl1,dm1,lt4⟩,?_,hap _ _ _ l9 (by decide)⟩
  ·simp[I1,J1,B2,rn0,Rn.cells]
  ·have:=hap _ _ _ ik0 (by decide);rw[Gy0]at this;exact this
  ·have:=hap _ _ _ Ck0 (by decide);rw[Gz0]at this;exact this
  ·rw[Z6 (by omega),D5 _ _ (by omega)];exact hb0.block k hk
  ·rw[Z6 B3];exact N6 w Z5
 obtain⟨JB,J2,JE,rr,hE,hT,hJ0⟩:=Xt0 _ _ _ _ _ _ dn1;generalize J1 (K2 w yb nothing) b21 #[.slice none 0 0,.slice none 0 0,.slice none 0 0,.slice (pt b25) m m,.slice (pt b32) m m,.bool false,.i 0,.chan (some yb)] 153 (7,8)=w4 at *;have hZ:Ctx.Zs prog (Fin prog Post (ty0 X b21 yb 8) 0):=D4;refine ZA.seq hZ ?_;refine ZA.upto hZ hb 2 rfl rfl (R:=fun e' w'=>ZA _ _ _ _ e' _ w') ?_ (fun _ _ h=>h);refine U107 ?_;refine L.va (I8 rfl) ?_;refine U0 ?_;refine ZA.call (i:=2) (rest:=[]) hZ hb (f:=76) (args:=#[.p b21,.slice ba m bc]) rfl rfl (E4 rfl rfl func76 rfl cq1 rfl) (fun a ha=>?_);refine Lj0 (hE.beg _ (fun X' R' u hJ' fr h8 h9=>?_)) (by omega) hJ0;have hZ:Ctx.Zs prog (Fin prog Post X' 0):=D4;refine ZA.back (ax0 prog Post X' 0) (i:=2) rfl rfl ha h9 ?_;refine U108 ?_;refine U47 ?_;refine L.va (H6 rfl underlying23 rfl) ?_;refine U174 ?_;refine U169 ?_;exact Gx0 hE hT hm1 (by omega) sn 0 (by omega) X' R' u (hE.b2s _ _ _ hJ') _ rfl rfl rfl rfl rfl rfl
end
end Go.Vy.Sc
end
section
namespace Go.Vy.Sc
open Go Go.Conc Go.Yc Go.RowKit Go.Proofs Go.Proofs.YtnifpkopeheodaaGreat Tryz
open Go.Vc Go.Wg
attribute [local irreducible] KK
structure Sys where
 S:Type
 L:Type
 m:Nat
 s0:S
 nil:Nat->Bool
 stp:Nat->L->Stp
 rdy:Nat->L->S->Bool
 beg:Nat->S->gl0 S L
 go:Nat->L->S->gl0 S L
 le:Nat->Gm->Gm->Prop
 Inv:S->Gm->World->(Nat->Prop)->Prop
 lb:Nat
 pl:Nat->x6
structure PR (Y:Sys) where
 s:Y.S
 ft:List (Y.L ⊕ Nat)
 evs:List (Nat×Stp)
 N2:List (Nat×Nat×Nte)
 outs:List (gl0 Y.S Y.L)
 who:List (Option Nat)
 used:Nat
def tell (i n:Nat) (l:List Nte):List (Nat×Nat×Nte):=l.map fun k=>(n,i,k)
namespace Sys
section
variable (Y:Sys)
def p0:PR Y:=⟨Y.s0,[],[],[],[],[],0⟩
def bgn (p:PR Y):PR Y:=if Y.nil p.ft.length then{p with ft:=p.ft ++ [.inr 1]} else
 {p with s:=(Y.beg p.ft.length p.s).s,ft:=p.ft ++ [(Y.beg p.ft.length p.s).g8],N2:=p.N2++tell p.ft.length p.evs.length (Y.beg p.ft.length p.s).N2,outs:=p.outs ++ [Y.beg p.ft.length p.s],who:=p.who ++ [none]}
def M4:Nat->PR Y
 |0=>Y.p0
 |n+1=>Y.bgn (M4 n)
def y5 (p:PR Y) (i:Nat):PR Y:=match p.ft[i]? with
 |some (.inl l)=>{p with s:=(Y.go i l p.s).s,ft:=p.ft.set i (Y.go i l p.s).g8,evs:=p.evs ++ [(i,Y.stp i l)],N2:=p.N2++tell i (p.evs.length+1) (Y.go i l p.s).N2,outs:=p.outs ++ [Y.go i l p.s],who:=p.who ++ [some i],used:=p.used+1}
 |_=>p
def dp0 (p:PR Y) (i:Nat):Bool:=match p.ft[i]? with
 |some (.inl l)=>Y.rdy i l p.s
 |_=>false
def rds (p:PR Y):List Nat:=(List.range Y.m).filter (Y.dp0 p)
def step (p:PR Y) (e:Int):PR Y:=match(Y.rds p)[V9 e (Y.rds p).length]? with
 |some i=>Y.y5 p i
 |none=>p
def pn (sc:Nat->Int):Nat->PR Y
 |0=>Y.M4 Y.m
 |n+1=>Y.step (pn sc n) (sc n)
def o0:gl0 Y.S Y.L:=⟨Y.s0,[],.inr 0⟩
def B4 (q:PR Y) (t:Nat):gl0 Y.S Y.L:=(q.outs[t]?).getD Y.o0
def sAt (q:PR Y):Nat->Y.S
 |0=>Y.s0
 |t+1=>(Y.B4 q t).s
def N1 (q:PR Y) (i t:Nat):Nat:=(q.who.take (t+1)).count (some i)
structure Le (p q:PR Y):Prop where
 outs:p.outs <+: q.outs
 who:p.who <+: q.who
theorem Le.refl (p:PR Y):Y.Le p p:=⟨List.prefix_refl _,List.prefix_refl _⟩
variable {Y}
theorem Le.trans {p q r:PR Y} (h:Y.Le p q) (h':Y.Le q r):Y.Le p r:=⟨h.outs.trans h'.outs,h.who.trans h'.who⟩
theorem Rg0 (p:PR Y):Y.Le p (Y.bgn p):=by
 unfold bgn;split
 ·exact⟨List.prefix_refl _,List.prefix_refl _⟩
 ·exact⟨List.prefix_append _ _,List.prefix_append _ _⟩
theorem Lq0 (p:PR Y) (i:Nat):Y.Le p (Y.y5 p i):=by
 unfold y5;split
 ·exact⟨List.prefix_append _ _,List.prefix_append _ _⟩
 ·exact Le.refl Y p
theorem le_step (p:PR Y) (e:Int):Y.Le p (Y.step p e):=by
 unfold step;split
 ·exact Lq0 p _
 ·exact Le.refl Y p
theorem Lr0 {n k:Nat}:Y.Le (Y.M4 n) (Y.M4 (n+k)):=by
 induction k with
 |zero=>exact Le.refl Y _
 |succ k ih=>exact ih.trans (Rg0 _)
theorem Ot0 {sc:Nat->Int} {n k:Nat}:Y.Le (Y.pn sc n) (Y.pn sc (n+k)):=by
 induction k with
 |zero=>exact Le.refl Y _
 |succ k ih=>exact ih.trans (le_step _ _)
structure Ok (p:PR Y):Prop where
 s:p.s=Y.sAt p p.outs.length
 who:p.who.length=p.outs.length
 used:p.evs.length=p.used
theorem Rh0 {p q:PR Y} (h:Y.Le p q) {t:Nat} (ht:t <=p.outs.length):Y.sAt q t=Y.sAt p t:=by
 cases t with
 |zero=>rfl
 |succ t=>
  obtain⟨l,hl⟩:=h.outs;show(Y.B4 q t).s=(Y.B4 p t).s;unfold B4;rw[<- hl,List.getElem?_append_left (by omega)]
theorem Xu0:Ok (Y.p0):=⟨rfl,rfl,rfl⟩
theorem As0 (p:PR Y) (o:gl0 Y.S Y.L) {q:PR Y} (hq:q.outs=p.outs ++ [o]):Y.sAt q (p.outs.length+1)=o.s:=by
 show(Y.B4 q p.outs.length).s=o.s;unfold B4;rw[hq];simp
theorem Ok.bgn {p:PR Y} (h:Ok p):Ok (Y.bgn p):=by
 unfold Sys.bgn;split
 ·exact⟨h.s,h.who,h.used⟩
 ·refine⟨?_,by simp[h.who],h.used⟩;simp only[List.length_append,List.length_cons,List.length_nil,Nat.zero_add];exact(As0 p _ rfl).symm
theorem Ok.y5 {p:PR Y} (h:Ok p) (i:Nat):Ok (Y.y5 p i):=by
 unfold Sys.y5;split
 ·refine⟨?_,by simp[h.who],by simp[h.used]⟩;simp only[List.length_append,List.length_cons,List.length_nil,Nat.zero_add];exact(As0 p _ rfl).symm
 ·exact h
theorem Ok.step {p:PR Y} (h:Ok p) (e:Int):Ok (Y.step p e):=by
 unfold Sys.step;split
 ·exact h.y5 _
 ·exact h
theorem ua0:∀n,Ok (Y.M4 n)
 |0=>Xu0
 |n+1=>(ua0 n).bgn
theorem vz0 (sc:Nat->Int):∀n,Ok (Y.pn sc n)
 |0=>ua0 _
 |n+1=>(vz0 sc n).step _
theorem Ls0 {p q:PR Y} (h:Ok p) (hl:Y.Le p q):Y.sAt q p.outs.length=p.s:=by rw[Rh0 hl (Nat.le_refl _),h.s]
theorem Hb0 {p q:PR Y} {o:gl0 Y.S Y.L} {p':PR Y} (hp:p'.outs=p.outs ++ [o]) (hl:Y.Le p' q):Y.B4 q p.outs.length=o:=by
 obtain⟨l,hl⟩:=hl.outs;unfold B4;rw[<- hl,hp,List.append_assoc,List.getElem?_append_right (Nat.le_refl _)];simp
theorem z5:∀n,(Y.M4 n).ft.length=n
 |0=>rfl
 |n+1=>by
  show(Y.bgn (Y.M4 n)).ft.length=n+1;unfold bgn;split <;> simp[z5 n]
theorem Hc0 (p:PR Y) (i:Nat):(Y.y5 p i).ft.length=p.ft.length:=by
 unfold y5;split <;> simp
theorem Hd0 (p:PR Y) (e:Int):(Y.step p e).ft.length=p.ft.length:=by
 unfold step;split
 ·exact Hc0 p _
 ·rfl
def Reach (Y:Sys) (p:PR Y):Prop:=(∃n,n <=Y.m/\p=Y.M4 n)\/∃sc n,p=Y.pn sc n
theorem T8 (sc:Nat->Int):∀n,(Y.pn sc n).ft.length=Y.m
 |0=>z5 _
 |n+1=>(Hd0 _ _).trans (T8 sc n)
end
end Sys
structure LeOk (Y:Sys):Prop where
 refl:∀i a,Y.le i a a
 trans:∀i a b c,Y.le i a b->Y.le i b c->Y.le i a c
noncomputable def Sys.cfg (Y:Sys) (fb:Nat->FuncId) (q:PR Y) (w0:World) (i cb:Nat) (top:List Frame):Q8 prog where
 S:=Y.S
 L:=Y.L
 stp:=Y.stp i
 rdy:=Y.rdy i
 go:=Y.go i
 out:=Y.B4 q
 sOf:=Y.sAt q
 N1:=Y.N1 q i
 le:=Y.le i
 gu:=fun a b=>∀j,j≠i->Y.le j a b
 Inv:=Y.Inv
 At:=fun t l=>t <=300000/\∃p:PR Y,Y.Reach p/\p.outs.length=t/\p.s=Y.sAt q t/\p.ft[i]? =some (.inl l)
 BAt:=fun t=>t <=300000/\∃p:PR Y,Y.Reach p/\p.outs.length=t/\p.s=Y.sAt q t/\p.ft.length=i
 num:=i
 ptr:=cb
 base:=w0
 jg0:=83
 Nw0:=none
 L3:=47
 Fb0:=none
 Fc0:=fb i
 top:=top
structure Geo where
 gm:Gm
 gi:Nat->Nat
 ab:Nat->Nat
 eb:Nat->Nat
 top:Nat->List Frame
 pv:Nat->Nat->Prop
section
variable (Y:Sys)(fb:Nat->FuncId)(q:PR Y)(w0:World)(Γ:Geo)(X:Gh)(R:Rn)(w:World)
structure Wt (j:Nat) (c:CB) (l:Y.L):Prop where
 wt:c.wt=true
 st:c.st=false
 sp:c.sp=Y.stp j l
 he:I1 w (Γ.eb j) #[.bool false] 4 (0,0)
 node:∃(me:Goroutine) (cs:List Frame) (wn:World) (mn:Gm) (Fn:Nat->Prop) (Rdo:World->World->Prop),X.D1 (Γ.gi j)=some ⟨c.rc,.bool false,me⟩/\lp0 cs c.cb c.df me/\(Y.cfg fb q w0 j c.cb (Γ.top j)).cm0 wn mn Fn c.rf l/\FnV prog c.df /\
  (∀b,Γ.pv j b↔b<wn.heap.size/\wn.heap[b]? ≠some nothing/\¬Fn b)/\(∀b,Γ.pv j b->w.heap[b]? =wn.heap[b]?)/\wn.os=w0.os/\wn.output=w0.output/\wn.heap.size <=w.heap.size/\Y.le j mn Γ.gm /\
  (∀u F',(Y.cfg fb q w0 j c.cb (Γ.top j)).Goes wn mn Fn l u F'->Bv0 prog (Y.cfg fb q w0 j c.cb (Γ.top j)).C4 c.df u (Rdo u)) /\
  (∀u F' u2,(Y.cfg fb q w0 j c.cb (Γ.top j)).Goes wn mn Fn l u F'->Rdo u u2->u2.tape=u.tape->∀fr,fr.fn=83->Leaves prog fr u2 (.returned (.tuple #[]))->r8 (Y.cfg fb q w0 j c.cb (Γ.top j)) (G fr cs) u2) /\
  (∀u F',(Y.cfg fb q w0 j c.cb (Γ.top j)).j5 wn mn Fn u F'->gh u 2=1->∀fr ch,fr.fn=83->bd0 ch->Leaves prog fr u (.panicked ch)->r8 (Y.cfg fb q w0 j c.cb (Γ.top j)) (G fr cs) u)
structure Ck (j:Nat) (c:CB):Prop where
 top:Gm0 (Γ.top j) (Γ.ab j) (Γ.eb j) R.rb c.cb
 ha:I1 w (Γ.ab j) #[.p c.cb] 91 (0,0)
 he:∃en,I1 w (Γ.eb j) #[.bool en] 4 (0,0)
 bx0:0<Γ.gi j/\Γ.gi j<X.n
 stay:X.stay (Γ.gi j)=[(⟨c.cb,2,none⟩,.chan (some c.rc))]
 ch:X.N7 c.rc
def Cl1 (j:Nat) (c:CB) (f:Y.L ⊕ Nat):Prop :=
 (Y.nil j=true/\f= .inr 1/\c.wt=false/\R.ends[j]? =some 1)\/(Y.nil j=false/\match f with
  | .inl l=>Wt Y fb q w0 Γ X w j c l
  | .inr x=>c.wt=false/\R.ends[j]? =some (x:Int)/\X.D1 (Γ.gi j)=none)
variable (Mn:Nat->Option Obj)
structure Ri0:Prop where
 le:Y.lb <=w0.heap.size
 low:∀b,X.low b->Y.lb <=b
 pl:X.O4=Y.pl
structure Fix (hold:Option Nat) (ft:Nat->Option (Y.L ⊕ Nat)):Prop where
 mem:L4 w w0.heap.size R
 m:R.m=Y.m
 cl:∀j c,R.cl[j]? =some c->some j≠hold->∃f,ft j=some f/\Cl1 Y fb q w0 Γ X R w j c f
 ck:∀j c,R.cl[j]? =some c->Y.nil j=false->Ck Γ X R w j c
 fpB:∀b,R.fp b->w0.heap.size <=b
 side:∀j,j<R.cl.length->Y.nil j=false->w0.heap.size <=Γ.ab j/\w0.heap.size <=Γ.eb j/\¬R.fp (Γ.ab j)/\¬R.fp (Γ.eb j)
 pv:∀j b,Γ.pv j b->b<w.heap.size/\¬R.fp b/\¬Mn b≠none/\(∀k,k<R.cl.length->Y.nil k=false->b≠Γ.ab k/\b≠Γ.eb k)/\∀k,k≠j->¬Γ.pv k b
 mn:∀b,Mn b≠none->w.heap[b]? =Mn b/\¬R.fp b/\∀k,k<R.cl.length->Y.nil k=false->b≠Γ.ab k/\b≠Γ.eb k
 il0:0<X.n
 os:hold=none->w.os=w0.os
 output:hold=none->w.output=w0.output
 size:w0.heap.size <=w.heap.size
 O2:X.O2=some ⟨R.rb,8⟩
 jk0:X.stay 0=[(⟨R.rb,7,none⟩,.chan (some R.yb))]
 chy:X.N7 R.yb
 Q3:∀g s,g≠0->X.D1 g=some s->∃j c,R.cl[j]? =some c/\Y.nil j=false/\g=Γ.gi j/\s.ch=c.rc/\some j≠hold
 yc0:∀j k,j<R.cl.length->k<R.cl.length->Y.nil j=false->Y.nil k=false->Γ.gi j=Γ.gi k->j=k
 rm0:∀j k,j<R.cl.length->k<R.cl.length->Y.nil j=false->Y.nil k=false->Γ.eb j=Γ.eb k->j=k
 Cl0:∀j k c d,R.cl[j]? =some c->R.cl[k]? =some d->Y.nil j=false->Y.nil k=false->c.rc=d.rc->j=k
 ry:∀j c,R.cl[j]? =some c->Y.nil j=false->c.rc≠R.yb
 dn:X.dn=0
 pend:X.pend=0
 cap:X.cap <=R.cl.length
 under:X.c9 w.heap.size
 O4:∀b,w.heap.size <=b->X.O4 b= .all
 ls0:hold=none->X.D1 0=none
 base:Ri0 Y w0 X
end
section
variable {Y:Sys}{fb:Nat->FuncId}{q:PR Y}{Γ Γ':Geo}{X X':Gh}{R R':Rn}{w w':World}{Mn:Nat->Option Obj}{w0:World}{hold:Option Nat}{ft:Nat->Option (Y.L ⊕ Nat)}
def Kept (Y:Sys) (Γ:Geo) (R:Rn) (Mn:Nat->Option Obj) (b:Nat):Prop:=Mn b≠none\/(∃k,k<R.cl.length/\Y.nil k=false/\(b=Γ.ab k\/b=Γ.eb k))\/∃j,Γ.pv j b
theorem Wt.y5 {j:Nat} (hle:∀a b c,Y.le j a b->Y.le j b c->Y.le j a c) (hgm:Y.le j Γ.gm Γ'.gm) {c:CB} {l:Y.L} (h:Wt Y fb q w0 Γ X w j c l) (hb:∀b,Γ.pv j b->w'.heap[b]? =w.heap[b]?) (B2:w.heap.size <=w'.heap.size) (hs:X'.D1 (Γ.gi j)=X.D1 (Γ.gi j)) (he:w'.heap[Γ.eb j]? =w.heap[Γ.eb j]?) (hge:Γ'.eb j=Γ.eb j) (hg:Γ'.gi j=Γ.gi j) (ht:Γ'.top j=Γ.top j) (hp:Γ'.pv j=Γ.pv j):Wt Y fb q w0 Γ' X' w' j c l:=by
 obtain⟨h1,h2,h3,h4,me,cs,wn,mn,Fn,Rdo,a1,a2,a3,a4,a5,a6,a7,a8,a9,ale,a10,a11,a12⟩:=h;refine⟨h1,h2,h3,by rw[hge];exact he.trans h4,me,cs,wn,mn,Fn,Rdo,?_⟩;rw[hg,ht,hp,hs];exact⟨a1,a2,a3,a4,a5,fun b P7=>(hb b P7).trans (a6 b P7),a7,a8,Nat.le_trans a9 B2,hle _ _ _ ale hgm,a10,a11,a12⟩
theorem Cl1.y5 {j:Nat} (hle:∀a b c,Y.le j a b->Y.le j b c->Y.le j a c) (hgm:Y.le j Γ.gm Γ'.gm) {c:CB} {f:Y.L ⊕ Nat} (h:Cl1 Y fb q w0 Γ X R w j c f) (hb:∀b,Γ.pv j b->w'.heap[b]? =w.heap[b]?) (B2:w.heap.size <=w'.heap.size) (hs:Y.nil j=false->X'.D1 (Γ.gi j)=X.D1 (Γ.gi j)) (heb:Y.nil j=false->w'.heap[Γ.eb j]? =w.heap[Γ.eb j]?) (hge:Γ'.eb j=Γ.eb j) (hg:Γ'.gi j=Γ.gi j) (ht:Γ'.top j=Γ.top j) (hp:Γ'.pv j=Γ.pv j) (he:R'.ends[j]? =R.ends[j]?):Cl1 Y fb q w0 Γ' X' R' w' j c f:=by
 rcases h with⟨h1,h2,h3,h4⟩|⟨h1,h2⟩
 ·exact .inl ⟨h1,h2,h3,by rw[he];exact h4⟩
 ·refine .inr ⟨h1,?_⟩;cases f with
  |inl l=>exact Wt.y5 hle hgm h2 hb B2 (hs h1) (heb h1) hge hg ht hp
  |inr x=>exact⟨h2.1,by rw[he];exact h2.2.1,by rw[hg,hs h1];exact h2.2.2⟩
theorem Fix.y5 (hY:LeOk Y) (h:Fix Y fb q w0 Γ X R w Mn hold ft) (hM:L4 w' w0.heap.size R') (B9:R'.rb=R.rb) (hyb:R'.yb=R.yb) (hm:R'.m=R.m) (hfp:∀b,R'.fp b->R.fp b\/w.heap.size <=b) (hlen:R'.cl.length=R.cl.length)
  (E6:∀j c',R'.cl[j]? =some c'->∃c,R.cl[j]? =some c/\c'.cb=c.cb/\c'.rc=c.rc/\(some j≠hold->c'=c/\R'.ends[j]? =R.ends[j]?)) (B2:w.heap.size <=w'.heap.size) (e8:∀b,b<w.heap.size->¬R.fp b->Kept Y Γ R Mn b->w'.heap[b]? =w.heap[b]?\/∃i en,hold=some i/\i<R.cl.length/\Y.nil i=false/\b=Γ.eb i/\I1 w' b #[.bool en] 4 (0,0)) (hos:hold=none->w'.os=w.os/\w'.output=w.output) :
  Fix Y fb q w0 Γ X R' w' Mn hold ft:=by
 have lt:∀j c',R'.cl[j]? =some c'->j<R.cl.length:=fun j c' hc=>by rw[<- hlen];exact(List.getElem?_eq_some_iff.1 hc).1
 have hpv:∀j b,Γ.pv j b->w'.heap[b]? =w.heap[b]?:=fun j b hb=>by
  have hp:=h.pv j b hb;rcases e8 b hp.1 hp.2.1 (.inr (.inr ⟨j,hb⟩))with z|⟨i,en,_,z1,z2,z3,_⟩
  ·exact z
  ·exact absurd z3 (hp.2.2.2.1 i z1 z2).2
 have heb:∀j,j<R.cl.length->Y.nil j=false->w'.heap[Γ.eb j]? =w.heap[Γ.eb j]?\/(hold=some j/\∃en,I1 w' (Γ.eb j) #[.bool en] 4 (0,0)):=fun j hj hn=>by
  obtain⟨en,he⟩:=(h.ck j _ (List.getElem?_eq_getElem hj) hn).he;rcases e8 _ he.lt (h.side j hj hn).2.2.2 (.inr (.inl ⟨j,hj,hn,.inr rfl⟩))with z|⟨i,en,z0,z1,z2,z3,z4⟩
  ·exact .inl z
  ·obtain rfl:=h.rm0 j i hj z1 hn z2 z3;exact .inr ⟨z0,en,z4⟩
 have do1:∀j,j<R.cl.length->Y.nil j=false->some j≠hold->w'.heap[Γ.eb j]? =w.heap[Γ.eb j]?:=fun j hj hn hh=>by
  rcases heb j hj hn with z|⟨z,_⟩
  ·exact z
  ·exact absurd z.symm hh
 refine⟨hM,hm.trans h.m,fun j c' hc hj=>?_,fun j c' hc hn=>?_,fun b hb=>?_,fun j hj hn=>?_,fun j b hb=>?_,fun b hb=>?_,h.il0,fun z=>(hos z).1.trans (h.os z),fun z=>(hos z).2.trans (h.output z),Nat.le_trans h.size B2,by rw[B9];exact h.O2,by rw[B9,hyb];exact h.jk0,by rw[hyb];exact h.chy,fun g s hg hs=>?_,by rw[hlen];exact h.yc0,by rw[hlen];exact h.rm0,fun j k c d hc hd hn hk e=>?_,fun j c' hc hn=>?_,h.dn,h.pend,by rw[hlen];exact h.cap,h.under.mono B2,fun b hb=>h.O4 b (Nat.le_trans B2 hb),h.ls0,h.base⟩
 ·obtain⟨c,hc0,_,_,h4⟩:=E6 j c' hc;obtain⟨rfl,h5⟩:=h4 hj;obtain⟨f,hf,h6⟩:=h.cl j c' hc0 hj;exact⟨f,hf,h6.y5 (hY.trans _) (hY.refl _ Γ.gm) (fun b hb=>hpv j b hb) B2 (fun _=>rfl) (fun hn=>do1 j (lt j c' hc) hn hj) rfl rfl rfl rfl h5⟩
 ·obtain⟨c,hc0,hcb,hrc,_⟩:=E6 j c' hc;have hk:=h.ck j c hc0 hn;have hs:=h.side j (lt j c' hc) hn;refine⟨by rw[B9,hcb];exact hk.top,?_,?_,hk.bx0,by rw[hcb,hrc];exact hk.stay,by rw[hrc];exact hk.ch⟩
  ·rw[hcb];rcases e8 _ hk.ha.lt hs.2.2.1 (.inr (.inl ⟨j,lt j c' hc,hn,.inl rfl⟩))with z|⟨i,en,_,z1,z2,z3,_⟩
   ·exact z.trans hk.ha
   ·obtain⟨en',he'⟩:=(h.ck i _ (List.getElem?_eq_getElem z1) z2).he;exact absurd z3 (I1.ne hk.ha he' (by decide))
  ·rcases heb j (lt j c' hc) hn with z|⟨_,z⟩
   ·obtain⟨en',he'⟩:=hk.he;exact⟨en',z.trans he'⟩
   ·exact z
 ·rcases hfp b hb with z|z
  ·exact h.fpB b z
  ·exact Nat.le_trans h.size z
 ·rw[hlen]at hj;have hs:=h.side j hj hn;obtain⟨c,hc⟩:∃c,R.cl[j]? =some c:=⟨_,List.getElem?_eq_getElem hj⟩
  have hk:=h.ck j c hc hn;exact⟨hs.1,hs.2.1,fun z=>by rcases hfp _ z with y|y;exact hs.2.2.1 y;have:=hk.ha.lt;omega,fun z=>by rcases hfp _ z with y|y;exact hs.2.2.2 y;have:=hk.he.choose_spec.lt;omega⟩
 ·have hp:=h.pv j b hb;exact⟨Nat.lt_of_lt_of_le hp.1 B2,fun z=>by rcases hfp _ z with y|y;exact hp.2.1 y;have:=hp.1;omega,hp.2.2.1,by rw[hlen];exact hp.2.2.2.1,hp.2.2.2.2⟩
 ·have hm':=h.mn b hb;have H2:b<w.heap.size:=by
   rcases Nat.lt_or_ge b w.heap.size with z|z
   ·exact z
   ·exact absurd (hm'.1.symm.trans (Array.getElem?_eq_none z)) hb
  refine⟨?_,fun z=>by rcases hfp b z with y|y;exact hm'.2.1 y;omega,by rw[hlen];exact hm'.2.2⟩;rcases e8 b H2 hm'.2.1 (.inl hb)with z|⟨i,en,_,z1,z2,z3,_⟩
  ·exact z.trans hm'.1
  ·exact absurd z3 (hm'.2.2 i z1 z2).2
 ·obtain⟨j,c,h1,h2,h3,h4,h5⟩:=h.Q3 g s hg hs;have hj:j<R'.cl.length:=by rw[hlen];exact(List.getElem?_eq_some_iff.1 h1).1
  obtain⟨c',M6⟩:∃c',R'.cl[j]? =some c':=⟨_,List.getElem?_eq_getElem hj⟩
  obtain⟨c2,e1,_,e3,_⟩:=E6 j c' M6;rw[h1]at e1;obtain rfl:=Option.some.inj e1;exact⟨j,c',M6,h2,h3,by rw[e3];exact h4,h5⟩
 ·obtain⟨c2,e1,_,e3,_⟩:=E6 j c hc;obtain⟨d2,f1,_,f3,_⟩:=E6 k d hd;exact h.Cl0 j k c2 d2 e1 f1 hn hk (by rw[<- e3,<- f3];exact e)
 ·obtain⟨c2,e1,_,e3,_⟩:=E6 j c' hc;rw[e3,hyb];exact h.ry j c2 e1 hn
end
end Go.Vy.Sc
end
section
namespace Go.Vy.Sc
open Go Go.Conc Go.Yc Go.RowKit Go.Proofs Go.Proofs.YtnifpkopeheodaaGreat Tryz
open Go.Vc Go.Wg
section
attribute [local irreducible] KK
structure lt0 (Y:Sys):Prop extends LeOk Y where
 loc:∀s m (w w':World) F,Y.Inv s m w F->(∀b,F b->w'.heap[b]? =w.heap[b]?)->Y.Inv s m w' F
 vis:∀s m (w:World) F,Y.Inv s m w F->∀b,F b->b<w.heap.size/\w.heap[b]? ≠some nothing
section
variable {Y:Sys}{fb:Nat->FuncId}{q:PR Y}{Γ:Geo}{X:Gh}{R:Rn}{w:World}{Mn:Nat->Option Obj}{w0:World}{ft:Nat->Option (Y.L ⊕ Nat)}{i:Nat}
theorem eh0 {h j:Nat} {sh:Option G5} {g:Nat} (h1:g≠h) (h2:g≠j):(X.pass h j sh).D1 g=X.D1 g:=by
 show Go.ConcN.upd (Go.ConcN.upd X.D1 j none) h sh g=_;rw[Go.ConcN.upd_ne _ _ h1,Go.ConcN.upd_ne _ _ h2]
theorem O8 {h j:Nat} {sh:Option G5}:(X.pass h j sh).D1 h=sh:=Go.ConcN.upd_same _ _ _
theorem jl0 {h j:Nat} {sh:Option G5} (hj:j≠h):(X.pass h j sh).D1 j=none:=by
 show Go.ConcN.upd (Go.ConcN.upd X.D1 j none) h sh j=_;rw[Go.ConcN.upd_ne _ _ hj,Go.ConcN.upd_same]
def Geo.put (Γ:Geo) (i:Nat) (N:Nat->Prop):Geo:={Γ with pv:=fun j b=>if j=i then N b else Γ.pv j b}
def Geo.jy0 (Γ:Geo) (i:Nat) (N:Nat->Prop) (m:Gm):Geo:={Γ.put i N with gm:=m}
theorem go0 {N:Nat->Prop} {m:Gm} {j:Nat} (h:j≠i):(Γ.jy0 i N m).pv j=Γ.pv j:=by funext b;simp[Geo.jy0,Geo.put,h]
theorem ub0 {N:Nat->Prop} {j:Nat} (h:j≠i):(Γ.put i N).pv j=Γ.pv j:=by funext b;simp[Geo.put,h]
theorem Fix.back (hY:LeOk Y) {m:Gm} (hm:∀j,j≠i->Y.le j Γ.gm m) (h:Fix Y fb q w0 Γ X R w Mn (some i) ft) (hn:Y.nil i=false) {c:CB} (hc:R.cl[i]? =some c) {N:Nat->Prop} (hN:∀b,N b->b<w.heap.size/\¬R.fp b/\¬Kept Y Γ R Mn b) {sh:Option G5} (hsh:∀s,sh=some s->s.ch=c.rc) {f:Y.L ⊕ Nat}
  (hf:Cl1 Y fb q w0 (Γ.jy0 i N m) (X.pass (Γ.gi i) 0 sh) R w i c f) (hos:w.os=w0.os/\w.output=w0.output):Fix Y fb q w0 (Γ.jy0 i N m) (X.pass (Γ.gi i) 0 sh) R w Mn none (fun j=>if j=i then some f else ft j):=by
 have hi:=(List.getElem?_eq_some_iff.1 hc).1;have hg:=(h.ck i c hc hn).bx0;have N8:Γ.gi i≠0:=by omega
 refine⟨h.mem,h.m,fun j c' M6 _=>?_,fun j c' M6 hn'=>?_,h.fpB,h.side,fun j b hb=>?_,h.mn,h.il0,fun _=>hos.1,fun _=>hos.2,h.size,h.O2,h.jk0,h.chy,fun g s L6 hs=>?_,h.yc0,h.rm0,h.Cl0,h.ry,h.dn,h.pend,h.cap,⟨h.under.stay,h.under.j4,h.under.N7,h.under.O2,h.under.low⟩,h.O4,fun _=>jl0 N8.symm,⟨h.base.le,h.base.low,h.base.pl⟩⟩
 ·by_cases hj:j=i
  ·subst hj;rw[hc]at M6;obtain rfl:=Option.some.inj M6;exact⟨f,by simp,hf⟩
  ·obtain⟨f',h1,h2⟩:=h.cl j c' M6 (by simpa using hj);have hjl:=(List.getElem?_eq_some_iff.1 M6).1;refine⟨f',by simp[hj,h1],h2.y5 (Γ':=Γ.jy0 i N m) (hY.trans _) (hm j hj) (fun _ _=>rfl) (Nat.le_refl _) (fun x7=>eh0 (fun e=>hj (h.yc0 j i hjl hi x7 hn e)) ?_) (fun _=>rfl) rfl rfl rfl (go0 hj) rfl⟩;have:=(h.ck j c' M6 x7).bx0;omega
 ·have:=h.ck j c' M6 hn';exact⟨this.top,this.ha,this.he,this.bx0,this.stay,this.ch⟩
 ·by_cases hj:j=i
  ·subst hj;have P7:N b:=by simpa [Geo.jy0,Geo.put]using hb
   obtain⟨h1,h2,h3⟩:=hN b P7;refine⟨h1,h2,fun z=>h3 (.inl z),fun k hk hnk=>⟨fun e=>h3 (.inr (.inl ⟨k,hk,hnk,.inl e⟩)),fun e=>h3 (.inr (.inl ⟨k,hk,hnk,.inr e⟩))⟩,fun k hk hp=>?_⟩;rw[go0 hk]at hp;exact h3 (.inr (.inr ⟨k,hp⟩))
  ·rw[go0 hj]at hb;obtain⟨h1,h2,h3,h4,h5⟩:=h.pv j b hb;refine⟨h1,h2,h3,h4,fun k hk hp=>?_⟩;by_cases r9:k=i
   ·subst r9;have P7:N b:=by simpa [Geo.jy0,Geo.put]using hp
    exact(hN b P7).2.2 (.inr (.inr ⟨j,hb⟩))
   ·rw[go0 r9]at hp;exact h5 k hk hp
 ·by_cases hgi:g=Γ.gi i
  ·subst hgi;rw[O8]at hs;exact⟨i,c,hc,hn,rfl,hsh s hs,by simp⟩
  ·rw[eh0 hgi L6]at hs;obtain⟨j,c',h1,h2,h3,h4,_⟩:=h.Q3 g s L6 hs;exact⟨j,c',h1,h2,h3,h4,by simp⟩
theorem Fix.Xv0 (hY:LeOk Y) (h:Fix Y fb q w0 Γ X R w Mn none ft) (hn:Y.nil i=false) {c:CB} (hc:R.cl[i]? =some c) {s0:G5}:Fix Y fb q w0 (Γ.put i fun _=>False) (X.pass 0 (Γ.gi i) (some s0)) R w Mn (some i) ft:=by
 have hi:=(List.getElem?_eq_some_iff.1 hc).1;have hg:=(h.ck i c hc hn).bx0;have N8:Γ.gi i≠0:=by omega
 refine⟨h.mem,h.m,fun j c' M6 hj'=>?_,fun j c' M6 hn'=>?_,h.fpB,h.side,fun j b hb=>?_,h.mn,h.il0,fun z=>by simp at z,fun z=>by simp at z,h.size,h.O2,h.jk0,h.chy,fun g s L6 hs=>?_,h.yc0,h.rm0,h.Cl0,h.ry,h.dn,h.pend,h.cap,⟨h.under.stay,h.under.j4,h.under.N7,h.under.O2,h.under.low⟩,h.O4,(fun z=>by simp at z),⟨h.base.le,h.base.low,h.base.pl⟩⟩
 ·have hj:j≠i:=by simpa using hj'
  obtain⟨f',h1,h2⟩:=h.cl j c' M6 (by simp);have hjl:=(List.getElem?_eq_some_iff.1 M6).1;refine⟨f',h1,h2.y5 (Γ':=Γ.put i fun _=>False) (hY.trans _) (hY.refl _ Γ.gm) (fun _ _=>rfl) (Nat.le_refl _) (fun x7=>eh0 ?_ (fun e=>hj (h.yc0 j i hjl hi x7 hn e))) (fun _=>rfl) rfl rfl rfl (ub0 hj) rfl⟩;have:=(h.ck j c' M6 x7).bx0;omega
 ·have:=h.ck j c' M6 hn';exact⟨this.top,this.ha,this.he,this.bx0,this.stay,this.ch⟩
 ·by_cases hj:j=i
  ·subst hj;simp[Geo.put]at hb
  ·rw[ub0 hj]at hb;obtain⟨h1,h2,h3,h4,h5⟩:=h.pv j b hb;refine⟨h1,h2,h3,h4,fun k hk hp=>?_⟩;by_cases r9:k=i
   ·subst r9;simp[Geo.put]at hp
   ·rw[ub0 r9]at hp;exact h5 k hk hp
 ·by_cases hgi:g=Γ.gi i
  ·subst hgi;rw[jl0 N8]at hs;cases hs
  ·rw[eh0 L6 hgi]at hs;obtain⟨j,c',h1,h2,h3,h4,_⟩:=h.Q3 g s L6 hs;refine⟨j,c',h1,h2,h3,h4,?_⟩;intro e;obtain rfl:j=i:=by simpa using e
   exact hgi h3
structure Main (Y:Sys) (fb:Nat->FuncId) (q:PR Y) (w0:World) (Γ:Geo) (X:Gh) (R:Rn) (w:World) (Mn:Nat->Option Obj) (ft:Nat->Option (Y.L ⊕ Nat)) (s:Y.S):Prop where
 fix:Fix Y fb q w0 Γ X R w Mn none ft
 inv:∃F,Y.Inv s Γ.gm w F/\∀b,F b->¬R.fp b/\¬Kept Y Γ R Mn b
def im0 {L:Type} (e:List Int) (i:Nat):L ⊕ Nat->List Int
 | .inl _=>e
 | .inr x=>e.set i (x:Int)
def Rel (R0 R':Rn) (i:Nat) (N2:List (Nat×Nat×Nte)) (ends:List Int):Prop:=∃na nc c c',R0.cl[i]? =some c/\c'.N1=c.N1/\R'={R0 with na:=na,nc:=nc,N2:=N2,cl:=R0.cl.set i c',ends:=ends}
structure w8 (Y:Sys) (fb:Nat->FuncId) (q:PR Y) (w0:World) (Γ:Geo) (X:Gh) (Mn:Nat->Option Obj) (ft:Nat->Option (Y.L ⊕ Nat)) (i t at_ cb:Nat) (n0:List (Nat×Nat×Nte)) (R0 R:Rn) (H:Hid) (v:World):Prop where
 fix:Fix Y fb q w0 Γ X R (over H v) Mn (some i) ft
 j4:I6 H v
 no:∀b o,H b=some o->v.heap[b]? =some nothing
 all:∀b,(R.fp b\/Kept Y Γ R Mn b)->H b≠none
 tq:gh v 0=t
 gmq:gm v=Γ.gm
 atq:R.evs.length=at_
 cl:∃c,R.cl[i]? =some c/\c.cb=cb/\((gh v 2=0/\c.st=false/\R.N2=n0++tell i at_ ((Y.B4 q t).N2.take (gh v 1))/\c.N1=Y.N1 q i t)\/(gh v 2=1/\c.st=true/\R.N2=n0))
 rel:∃na nc N2,R={R0 with na:=na,nc:=nc,N2:=N2}
 nil:Y.nil i=false
 he:I1 (over H v) (Γ.eb i) #[.bool false] 4 (0,0)
theorem w8.il {Y:Sys} {fb:Nat->FuncId} {q:PR Y} {w0:World} {Γ:Geo} {X:Gh} {Mn:Nat->Option Obj} {ft:Nat->Option (Y.L ⊕ Nat)} {i t at_ cb:Nat} {n0:List (Nat×Nat×Nte)} {R0 R:Rn} {H:Hid} {v:World} (h:w8 Y fb q w0 Γ X Mn ft i t at_ cb n0 R0 R H v):i<R.cl.length:=by
 obtain⟨c,hc,_⟩:=h.cl;exact(List.getElem?_eq_some_iff.1 hc).1
theorem At0 {H:Hid} {v:World} {b:Nat} {o:Obj} (j4:I6 H v) (h:H b=some o):(over H v).heap[b]? =some o:=L8 h (j4.gone b o h).lt
theorem wa0 {v v':World} (he:Z8 v v') {b:Nat} (h:v.heap[b]? =some nothing):v'.heap[b]? =some nothing:=by
 obtain⟨y,hy,hk⟩:=he.obj _ _ h;obtain⟨c,rfl,h1,_⟩:=z7 hk;have:c=#[]:=by simpa using h1
 subst this;exact hy
theorem w8.evo {Y:Sys} (hY:LeOk Y) {fb:Nat->FuncId} {q:PR Y} {w0:World} {Γ:Geo} {X:Gh} {Mn:Nat->Option Obj} {ft:Nat->Option (Y.L ⊕ Nat)} {i t at_ cb:Nat} {n0:List (Nat×Nat×Nte)} {R0 R:Rn} {H:Hid} {v v':World} (h:w8 Y fb q w0 Γ X Mn ft i t at_ cb n0 R0 R H v) (he:Z8 v v') (ht:v'.tape=v.tape):w8 Y fb q w0 Γ X Mn ft i t at_ cb n0 R0 R H v':=by
 have Xw0:=h.j4.evo he;have hk:∀b,(R.fp b\/Kept Y Γ R Mn b)->(over H v').heap[b]? =(over H v).heap[b]?:=fun b hb=>by
  cases hh:H b with
  |none=>exact absurd hh (h.all b hb)
  |some o=>rw[At0 Xw0 hh,At0 h.j4 hh]
 refine⟨h.fix.y5 hY (h.fix.mem.congr fun b hb=>hk b (.inl hb)) rfl rfl rfl (fun b hb=>.inl hb) rfl (fun j c hc=>⟨c,hc,rfl,rfl,fun _=>⟨rfl,rfl⟩⟩) (by rw[y4,y4];exact he.size) (fun b _ _ hb=>.inl (hk b (.inr hb))) (fun z=>by cases z),Xw0,fun b o hb=>wa0 he (h.no b o hb),h.all,by rw[n4 ht];exact h.tq,by rw[gk0 ht];exact h.gmq,h.atq,?_,h.rel,h.nil,(hk _ (.inr (.inr (.inl ⟨i,h.il,h.nil,.inr rfl⟩)))).trans h.he⟩;rw[n4 ht,n4 ht];exact h.cl
end
end
section
attribute [local irreducible] KK
theorem Fix.W2 {Y:Sys} (hY:LeOk Y) {fb:Nat->FuncId} {q:PR Y} {Γ:Geo} {X:Gh} {R:Rn} {w:World} {Mn:Nat->Option Obj} {w0:World} {ft:Nat->Option (Y.L ⊕ Nat)} {hold:Option Nat} (h:Fix Y fb q w0 Γ X R w Mn hold ft) (τ:Tape) (d:Nat):Fix Y fb q w0 Γ X R (Yc.W2 w τ d) Mn hold ft :=
 h.y5 hY (h.mem.congr fun _ _=>rfl) rfl rfl rfl (fun _b hb=>.inl hb) rfl (fun _j c hc=>⟨c,hc,rfl,rfl,fun _=>⟨rfl,rfl⟩⟩) (Nat.le_refl _) (fun _ _ _ _=>.inl rfl) (fun _=>⟨rfl,rfl⟩)
theorem ro0 {v:Value} (h:FnV prog v):v.cells=#[v]/\v.oneCell'=true:=by
 rcases h with rfl|⟨f,caps,rfl,_⟩ <;> exact⟨rfl,rfl⟩
theorem Q8.cm0.fnV {K:Q8 prog} {w:World} {m:Gm} {F:Nat->Prop} {rf:Value} {l:K.L} (h:K.cm0 w m F rf l):FnV prog rf:=by
 rcases h with⟨h,_⟩|⟨f,caps,h,_⟩
 ·exact .inl h
 ·exact .inr ⟨f,caps,h⟩
theorem wb0 {fr:Frame} {w w':World} {v:Value} {fn:Func} (hf:prog.funcs[fr.fn]? =some fn) (hr:fn.results=#[]\/∃t,fn.results=#[.tmp t]) (hv:fn.results=#[]->v= .tuple #[]) (h:Leaves prog fr w (.returned v)) (hnv:o6 w):Leaves prog fr w' (.returned v):=by
 obtain⟨h1,h2,h3,fn',h4,h5⟩:=h;rw[hf]at h4;obtain rfl:=Option.some.inj h4;refine⟨h1,h2,h3,fn,hf,?_⟩;rcases hr with hr|⟨t,hr⟩
 ·rw[hv hr];exact P6 (fun w=>results_none hr _ _ w) (fun w=>events_results_none hr _ _)
 ·obtain⟨x',es,h6,_⟩:=h5 w.tape w.drawn _ w hnv.sim;have h7:=results_tmp hr fr.tmps prog w;rw[Sem.runT_eq]at h6;have h8:=(Prod.mk.inj h6).1;rw[h7]at h8;injection h8 with h9 h10
  rw[<- h9];exact P6 (fun w=>results_tmp hr _ _ w) (fun w=>events_results_tmp hr _ _)
section
variable {Y:Sys}{fb:Nat->FuncId}{q:PR Y}{Γ:Geo}{X:Gh}{R R0:Rn}{w:World}{Mn:Nat->Option Obj}{w0:World}{ft:Nat->Option (Y.L ⊕ Nat)}{i t at_ cb:Nat}{n0:List (Nat×Nat×Nte)}
theorem Fix.Lt0 (h:Fix Y fb q w0 Γ X R w Mn (some i) ft) {b:Nat} (hb:R.fp b\/Kept Y Γ R Mn b):b<w.heap.size:=by
 rcases hb with hb|hb|⟨k,hk,hn,hb⟩|⟨j,hb⟩
 ·exact h.mem.lt hb
 ·rcases Nat.lt_or_ge b w.heap.size with z|z
  ·exact z
  ·exact absurd ((h.mn b hb).1.symm.trans (Array.getElem?_eq_none z)) hb
 ·have:=h.ck k _ (List.getElem?_eq_getElem hk) hn;rcases hb with rfl|rfl
  ·exact this.ha.lt
  ·exact this.he.choose_spec.lt
 ·exact(h.pv j b hb).1
theorem w8.enter (hY:LeOk Y) (V:Nat->Prop) [DecidablePred V] {τ:Tape} {d:Nat} (fix:Fix Y fb q w0 Γ X R w Mn (some i) ft) (hV:∀b,(R.fp b\/Kept Y Γ R Mn b)->¬V b) (nv:o6 w) (h1:gh (Yc.W2 (E3 V w) τ d) 0=t) (hgm:gm (Yc.W2 (E3 V w) τ d)=Γ.gm) (h2:R.evs.length=at_)
  (h3:∃c,R.cl[i]? =some c/\c.cb=cb/\((gh (Yc.W2 (E3 V w) τ d) 2=0/\c.st=false/\R.N2=n0++tell i at_ ((Y.B4 q t).N2.take (gh (Yc.W2 (E3 V w) τ d) 1))/\c.N1=Y.N1 q i t)\/(gh (Yc.W2 (E3 V w) τ d) 2=1/\c.st=true/\R.N2=n0)))
  (h4:∃na nc N2,R={R0 with na:=na,nc:=nc,N2:=N2}) (hn:Y.nil i=false) (he:I1 w (Γ.eb i) #[.bool false] 4 (0,0)):w8 Y fb q w0 Γ X Mn ft i t at_ cb n0 R0 R (Y7 V w) (Yc.W2 (E3 V w) τ d):=by
 refine⟨?_,(li0 nv).W2 τ d,fun b o hb=>?_,fun b hb=>?_,h1,hgm,h2,h3,h4,hn,?_⟩
 ·rw[X7,gi0];exact fix.W2 hY τ d
 ·by_cases hv:V b
  ·simp[Y7,hv]at hb
  ·simp only[Y7,hv,if_false]at hb;exact fa0 hv (Array.getElem?_eq_some_iff.1 hb).1
 ·have hv:=hV b hb;have H2:=fix.Lt0 hb;simp only[Y7,hv,if_false];rw[Array.getElem?_eq_getElem H2];simp
 ·rw[X7,gi0];exact he
def After (Y:Sys) (fb:Nat->FuncId) (q:PR Y) (w0:World) (Mn:Nat->Option Obj) (ft:Nat->Option (Y.L ⊕ Nat)) (i t:Nat) (n0:List (Nat×Nat×Nte)) (R0:Rn) (st:Bool) (Γ':Geo) (X':Gh) (R':Rn) (w':World):Prop :=
 (st=false/\Main Y fb q w0 Γ' X' R' w' Mn (fun j=>if j=i then some (Y.B4 q t).g8 else ft j) (Y.B4 q t).s/\Rel R0 R' i (n0++tell i R0.evs.length (Y.B4 q t).N2) (im0 R0.ends i (Y.B4 q t).g8)) \/
 (st=true/\Main Y fb q w0 Γ' X' R' w' Mn (fun j=>if j=i then some (.inr 0) else ft j) (Y.sAt q t)/\Rel R0 R' i n0 (R0.ends.set i 0))
theorem w8.Rj0 {H:Hid} {v:World} (h:w8 Y fb q w0 Γ X Mn ft i t at_ cb n0 R0 R H v) {b:Nat} (hb:v.heap[b]? ≠some nothing):H b=none/\¬R.fp b/\¬Kept Y Γ R Mn b:=by
 have hn:H b=none:=by
  cases hh:H b with
  |none=>rfl
  |some o=>exact absurd (h.no b o hh) hb
 exact⟨hn,fun z=>h.all b (.inl z) hn,fun z=>h.all b (.inr z) hn⟩
theorem w8.N7 {H:Hid} {v:World} (h:w8 Y fb q w0 Γ X Mn ft i t at_ cb n0 R0 R H v) (hn:Y.nil i=false) {c:CB} (hc:R.cl[i]? =some c):∀g s2,g≠0->X.D1 g=some s2->s2.ch≠c.rc:=by
 intro g s2 hg hs e;obtain⟨j,d,h1,h2,h3,h4,h5⟩:=h.fix.Q3 g s2 hg hs;have:=h.fix.Cl0 j i d c h1 hc h2 hn (h4.symm.trans e);subst this;exact h5 rfl
theorem w8.home (hY:lt0 Y) {H:Hid} {v w':World} (h:w8 Y fb q w0 Γ X Mn ft i t at_ cb n0 R0 R H v) (hn:Y.nil i=false) {c c':CB} {ends:List Int} {S:Nat->Prop} {B:Nat} (hc:R.cl[i]? =some c) (Xx0:c'.cb=c.cb) (dp1:c'.rc=c.rc) (_hc'p:c'.N1=c.N1) (hg:Rg S B (over H v) w' w0.heap.size {R with cl:=R.cl.set i c',ends:=ends}) (hB:B=(over H v).heap.size) (hS:∀k,S k->R.fp k\/(k=Γ.eb i)) (dq1:∃en,I1 w' (Γ.eb i) #[.bool en] 4 (0,0)) (He0:∀j,j≠i->ends[j]? =R.ends[j]?)
  (F:Nat->Prop) {s:Y.S} {m:Gm} (hm:∀j,j≠i->Y.le j (gm v) m) (hinv:Y.Inv s m v F) (hos:v.os=w0.os/\v.output=w0.output) {sh:Option G5} (hsh:∀s,sh=some s->s.ch=c'.rc) {f:Y.L ⊕ Nat} {N:Nat->Prop} (hN:∀b,N b->v.heap[b]? ≠some nothing/\b<v.heap.size/\¬F b) (hf:(∀b,v.heap[b]? ≠some nothing->b<v.heap.size->w'.heap[b]? =v.heap[b]?)->Cl1 Y fb q w0 (Γ.jy0 i N m) (X.pass (Γ.gi i) 0 sh) {R with cl:=R.cl.set i c',ends:=ends} w' i c' f) :
  Main Y fb q w0 (Γ.jy0 i N m) (X.pass (Γ.gi i) 0 sh) {R with cl:=R.cl.set i c',ends:=ends} w' Mn (fun j=>if j=i then some f else ft j) s/\(∃na nc,{R with cl:=R.cl.set i c',ends:=ends}={R0 with na:=na,nc:=nc,N2:=R.N2,cl:=R0.cl.set i c',ends:=ends}):=by
 subst hB;have u7:=(List.getElem?_eq_some_iff.1 hc).1;have Ou0:∀b,b<(over H v).heap.size->¬R.fp b->b≠Γ.eb i->w'.heap[b]? =(over H v).heap[b]?:=fun b hb hf he=>hg.md.block b hb fun hs=>(hS b hs).elim hf he;have P8:∀b,v.heap[b]? ≠some nothing->b<v.heap.size->w'.heap[b]? =v.heap[b]?:=fun b hb H2=>by
  obtain⟨h1,h2,h3⟩:=h.Rj0 hb;rw[Ou0 b (by rw[y4];exact H2) h2 (fun e=>h3 (.inr (.inl ⟨i,u7,hn,.inr e⟩))),o5 v h1]
 have hfp:∀b,Rn.fp {R with cl:=R.cl.set i c',ends:=ends} b->R.fp b:=fun b hb=>Rn.Ak0 (R:=R) hc Xx0 hb;have hK:∀b,Kept Y Γ {R with cl:=R.cl.set i c',ends:=ends} Mn b↔Kept Y Γ R Mn b:=fun b=>by simp[Kept]
 have Xy0:=h.fix.y5 hY.toLeOk (R':={R with cl:=R.cl.set i c',ends:=ends}) (w':=w') hg.m rfl rfl rfl (fun b hb=>.inl (hfp b hb)) (by simp) (fun j d hd=>by
  have H5:(R.cl.set i c')[j]? =some d:=hd;rw[List.getElem?_set]at H5;by_cases hj:i=j
  ·subst hj;rw[if_pos rfl,if_pos u7]at H5;obtain rfl:=Option.some.inj H5;exact⟨c,hc,Xx0,dp1,fun z=>absurd rfl z⟩
  ·rw[if_neg hj]at H5;exact⟨d,H5,rfl,rfl,fun _=>⟨rfl,He0 j (Ne.symm hj)⟩⟩) hg.md.size (fun b hb hf _=>by
   by_cases he:b=Γ.eb i
   ·subst he;obtain⟨en,he⟩:=dq1;exact .inr ⟨i,en,rfl,u7,hn,rfl,he⟩
   ·exact .inl (Ou0 b hb hf he)) (fun z=>by cases z)
 have M6:Rn.cl {R with cl:=R.cl.set i c',ends:=ends}=R.cl.set i c':=rfl;have hci:(Rn.cl {R with cl:=R.cl.set i c',ends:=ends})[i]? =some c':=by rw[M6];simp[u7]
 have Xz0:=Xy0.back hY.toLeOk (m:=m) (by rw[<- h.gmq];exact hm) hn hci (N:=N) (fun b hb=>by
  obtain⟨h1,h2,h3⟩:=hN b hb;obtain⟨h4,h5,h6⟩:=h.Rj0 h1;refine⟨Nat.lt_of_lt_of_le h2 (by have:=hg.md.size;rw[y4]at this;exact this),fun z=>h5 (hfp b z),fun z=>h6 ((hK b).1 z)⟩) hsh (hf P8) ⟨hg.md.os.trans hos.1,hg.md.output.trans hos.2⟩
 refine⟨⟨Xz0,F,hY.loc _ _ v w' F hinv fun b hb=>?_,fun b hb=>?_⟩,?_⟩
 ·have:=hY.vis _ _ v F hinv b hb;exact P8 b this.2 this.1
 ·have hv:=hY.vis _ _ v F hinv b hb;obtain⟨h4,h5,h6⟩:=h.Rj0 hv.2;refine⟨fun z=>h5 (hfp b z),fun z=>?_⟩;rcases z with z|z|⟨j,z⟩
  ·exact h6 (.inl z)
  ·exact h6 ((hK b).1 (.inr (.inl z)))
  ·by_cases hj:j=i
   ·subst hj;have:N b:=by simpa [Geo.jy0,Geo.put]using z
    exact(hN b this).2.2 hb
   ·rw[go0 hj]at z;exact h6 (.inr (.inr ⟨j,z⟩))
 ·obtain⟨na,nc,N2,rfl⟩:=h.rel;exact⟨na,nc,rfl⟩
end
end
section
attribute [local irreducible] KK
section
variable {Y:Sys}{fb:Nat->FuncId}{q:PR Y}{Γ:Geo}{X:Gh}{R R0:Rn}{Mn:Nat->Option Obj}{w0:World}{ft:Nat->Option (Y.L ⊕ Nat)}{i t at_ cb:Nat}{n0:List (Nat×Nat×Nte)}{H:Hid}{v:World}
theorem w8.bx0 (h:w8 Y fb q w0 Γ X Mn ft i t at_ cb n0 R0 R H v):0<Γ.gi i:=(h.fix.ck i _ (List.getElem?_eq_getElem h.il) h.nil).bx0.1
theorem w8.Ya0 (h:w8 Y fb q w0 Γ X Mn ft i t at_ cb n0 R0 R H v) {b:Nat} (hb:H b=none):¬R.fp b/\¬Kept Y Γ R Mn b:=⟨fun z=>h.all b (.inl z) hb,fun z=>h.all b (.inr z) hb⟩
theorem w8.again (hY:LeOk Y) (h:w8 Y fb q w0 Γ X Mn ft i t at_ cb n0 R0 R H v) {w':World} {R':Rn} {τ:Tape} {d:Nat} (hg:Rg R.fp (over H v).heap.size (over H v) w' w0.heap.size R') (V:Nat->Prop) [DecidablePred V] (hV:∀b,V b↔(H b=none/\¬R'.fp b)) (nv:o6 w') (hR:∃na nc N2,R'={R with na:=na,nc:=nc,N2:=N2})
  (h1:gh (Yc.W2 (E3 V w') τ d) 0=t) (hgm:gm (Yc.W2 (E3 V w') τ d)=gm v) (h3:∃c,R'.cl[i]? =some c/\c.cb=cb/\((gh (Yc.W2 (E3 V w') τ d) 2=0/\c.st=false/\R'.N2=n0++tell i at_ ((Y.B4 q t).N2.take (gh (Yc.W2 (E3 V w') τ d) 1))/\c.N1=Y.N1 q i t)\/(gh (Yc.W2 (E3 V w') τ d) 2=1/\c.st=true/\R'.N2=n0))) :
  w8 Y fb q w0 Γ X Mn ft i t at_ cb n0 R0 R' (Y7 V w') (Yc.W2 (E3 V w') τ d)/\Qd0 v (Yc.W2 (E3 V w') τ d):=by
 obtain⟨na,nc,N2,rfl⟩:=hR;have hkb:∀b,b<(over H v).heap.size->¬R.fp b->w'.heap[b]? =(over H v).heap[b]?:=fun b hb hf=>hg.md.block b hb hf;have jt0:=h.fix.y5 hY (R':={R with na:=na,nc:=nc,N2:=N2}) (w':=w') hg.m rfl rfl rfl hg.fp rfl (fun j c hc=>⟨c,hc,rfl,rfl,fun _=>⟨rfl,rfl⟩⟩) hg.md.size (fun b hb hf _=>.inl (hkb b hb hf)) (fun z=>by cases z);have heL:=h.he.lt;have heF:¬R.fp (Γ.eb i):=(h.fix.side i h.il h.nil).2.2.2;refine⟨w8.enter hY V jt0 (fun b hb hv=>?_) nv h1 (hgm.trans h.gmq) h.atq h3 ?_ h.nil ((hkb _ heL heF).trans h.he),⟨?_,?_,?_,fun b hb=>?_⟩⟩
 ·obtain⟨h4,h5⟩:=(hV b).1 hv;rcases hb with hb|hb
  ·exact h5 hb
  ·exact h.all b (.inr hb) h4
 ·obtain⟨a,c,n,e⟩:=h.rel;exact⟨na,nc,N2,by rw[e]⟩
 ·exact hg.md.os
 ·exact hg.md.output
 ·show v.heap.size <=(E3 V w').heap.size;rw[p8,<- y4 H v];exact hg.md.size
 ·show(E3 V w').heap[b]? =v.heap[b]?;have P7:b<(over H v).heap.size:=by rw[y4];exact hb
  cases hh:H b with
  |none=>
   have hf:=h.Ya0 hh;have hf':¬Rn.fp {R with na:=na,nc:=nc,N2:=N2} b:=fun z=>(hg.fp b z).elim hf.1 (Nat.not_le_of_lt P7);rw[E9 _ ((hV b).2 ⟨hh,hf'⟩),hkb b P7 hf.1,o5 v hh]
  |some o=>
   rw[fa0 (fun z=>by rw[((hV b).1 z).1]at hh;cases hh) (Nat.lt_of_lt_of_le P7 hg.md.size),h.no b o hh]
theorem w8.number {Post:Value->World->Prop} {cs:List Frame} (h:w8 Y fb q w0 Γ X Mn ft i t at_ cb n0 R0 R H v) (k:∀fr,fr.fn=47->Leaves prog fr v (.returned (.i (i:Nat)))->em0 prog Post X (Γ.gi i) H (G fr cs) v) :
  em0 prog Post X (Γ.gi i) H (G (Frame.enter prog 47 #[.p cb] .normal) cs) v:=by
 intro hH;obtain⟨c,hc,hcb,_⟩:=h.cl;have hB:=h.fix.mem.blk i c hc;refine u9 _ _ fun nv=>?_;subst hcb;refine @Gf0 (M1 prog (Γ.gi i==0)) R.rb i c (over H v) hB _ D4 cs fun e w' fr he hf hl=>?_;cases e with
 |returned x=>
  obtain⟨rfl,rfl⟩:=he;exact k fr hf (wb0 (by rw[hf];exact func47) (.inr ⟨_,rfl⟩) (fun z=>by cases z) hl nv) hH
 |panicked ch=>exact he.elim
 |outgrown=>exact he.elim
theorem ff0 {Post:Value->World->Prop} {z0:Value} {me0:Goroutine} {st:Bool} (hY:lt0 Y) (hX0:X.D1 0=some ⟨R0.yb,z0,me0⟩) (_hnt:n0.length+(Y.B4 q t).N2.length <=1000000000)
  (G7:∀Γ' X' R' w',After Y fb q w0 Mn ft i t n0 R0 st Γ' X' R' w'->Fin prog Post X' 0 (Go.Conc.served me0 (.i (i:Int))) w') {g:Goroutine} {v:World} (hp:r8 (Y.cfg fb q w0 i cb (Γ.top i)) g v) :
  ∀H R,w8 Y fb q w0 Γ X Mn ft i t at_ cb n0 R0 R H v->(∀c,R.cl[i]? =some c->c.st=st)->em0 prog Post X (Γ.gi i) H g v:=by
 induction hp with
 |own hr g' u' d' hf hk ih=>
  intro H R h R2;have N8:(Γ.gi i==0)=false:=by have:=h.bx0;simp;omega
  refine lh0 hr fun τ d=>⟨g' τ d,u' τ d,by rw[N8];exact hf τ d,fun he=>bn0 (ih τ d H R (h.evo hY.toLeOk ⟨he.size,he.obj⟩ rfl) R2)⟩
 |ign h0 ih=>
  intro H R h R2;exact An0.2 _ _ fun hv=>ih hv H R h R2
 | @number cs v k ih=>
  intro H R h R2;exact h.number fun fr hf hl=>ih fr hf hl H R h R2
 |N1 hfn=>cases hfn
 | @again cs v s rf df h2 hs k ih=>
  intro H R h R2 hH;obtain⟨c,hc,hcb,E6⟩:=h.cl;have hB:=h.fix.mem.blk i c hc;have kl0:c.st=true/\R.N2=n0:=by
   rcases E6 with E6|E6
   ·have:=E6.1;omega
   ·exact E6.2
  have N8:(Γ.gi i==0)=false:=by have:=h.bx0;simp;omega
  obtain⟨s0,rfl⟩:=hs;subst hcb;refine ya0 (Z:=Fin prog Post X (Γ.gi i)) (by have:=@D4 prog Post X (Γ.gi i);rw[N8]at this;exact this) hB kl0.1 fun w' fr ch hb hf hr hl=>?_;refine u9 _ _ fun nv=>?_;haveI:DecidablePred fun b=>H b=none/\¬R.fp b:=fun _=>Classical.propDecidable _;have hg:Rg R.fp (over H v).heap.size (over H v) w' w0.heap.size R:=h.fix.mem.rg.A0 hb;have htp:w'.tape=v.tape:=hb.tape;obtain⟨h5,h6⟩:=h.again hY.toLeOk (τ:=w'.tape) (d:=w'.drawn) hg (fun b=>H b=none/\¬R.fp b) (fun _=>Iff.rfl) nv ⟨R.na,R.nc,R.N2,rfl⟩ ((n4 htp 0).trans h.tq) (gk0 htp) ⟨c,hc,rfl,.inr ⟨(n4 htp 2).trans h2,kl0⟩⟩;exact kh0 (fun b=>H b=none/\¬R.fp b) (ih _ fr ch h6 htp hf hr hl _ R h5 R2)
 |note hfn=>cases hfn
 | @step cs v s rf df l m F ht hs hr hdf Rdo hdo go stop ihg ihs=>
  intro H R h R2 hH;obtain⟨c,hc,hcb,E6⟩:=h.cl;have htq:=h.tq;have hn:=h.nil;have h2:gh v 2=0:=ht.on;have wc0:c.st=false/\R.N2=n0++tell i at_ ((Y.B4 q t).N2.take (gh v 1))/\c.N1=Y.N1 q i t:=by
   rcases E6 with E6|E6
   ·exact E6.2
   ·have:=E6.1;omega
  have Ov0:(Y.B4 q t).g8= .inl l:=by rw[<- htq];exact ht.g8
  have dr1:gh v 1=(Y.B4 q t).N2.length:=by rw[<- htq];exact ht.N2
  have hinv:Y.Inv (Y.B4 q t).s m v F:=by rw[<- htq];exact ht.inv
  have hck:=h.fix.ck i c hc hn;have u7:=h.il;obtain⟨na,nc,N2,of0⟩:=h.rel;have hyb:R.yb=R0.yb:=by rw[of0]
  have hR0:R0.cl=R.cl:=by rw[of0]
  have Rk0:R0.evs=R.evs:=by rw[of0]
  subst hcb hs;refine step_fin (Bs:=w0.heap.size) h.fix.mem.rg hc wc0.1 (ro0 (Q8.cm0.fnV hr)) (ro0 hdf) (by have:=h.bx0;omega) (by rw[hyb];exact hX0) h.fix.dn hck.stay ⟨hck.ch,h.N7 hn hc⟩ fun w' me hg hme=>?_;have hef:=(h.fix.side i u7 hn).2.2.2;have heb:I1 w' (Γ.eb i) #[.bool false] 4 (0,0):=(hg.md.block _ h.he.lt hef).trans h.he;obtain⟨h7,h8⟩:=h.home hY hn (c':={c with sp:=Y.stp i l,rf:=rf,df:=df,wt:=true}) (ends:=R.ends) hc rfl rfl rfl hg rfl (fun k hk=>.inl hk) ⟨_,heb⟩ (fun _ _=>rfl) F ht.le hinv ⟨ht.os,ht.output⟩ (sh:=some ⟨c.rc,.bool false,me⟩) (fun s e=>by cases e;rfl) (f:=.inl l)
   (N:=fun b=>b<v.heap.size/\v.heap[b]? ≠some nothing/\¬F b) (fun b hb=>⟨hb.2.1,hb.1,hb.2.2⟩) (fun P8=>.inr ⟨hn,rfl,wc0.1,rfl,heb,me,cs,v,m,F,Rdo,O8,hme,hr,hdf,fun b=>by simp[Geo.jy0,Geo.put],fun b hb=>by
    have P7:b<v.heap.size/\v.heap[b]? ≠some nothing/\¬F b:=by simpa [Geo.jy0,Geo.put]using hb
    exact P8 b P7.2.1 P7.1,ht.os,ht.output,by have:=hg.md.size;rw[y4]at this;exact this,hY.refl _ _,hdo,go,stop⟩)
  rw[<- Ov0]at h7;obtain⟨a,b,e⟩:=h8;refine G7 _ _ _ _ (.inl ⟨(R2 c hc).symm.trans wc0.1,h7,a,b,c,{c with sp:=Y.stp i l,rf:=rf,df:=df,wt:=true},by rw[hR0];exact hc,rfl,e.trans ?_⟩)
  ·rw[Ov0,show im0 R0.ends i (Sum.inl l:Y.L ⊕ Nat)=R.ends from by rw[of0];rfl,wc0.2.1,dr1,List.take_length,Rk0,h.atq]
 | @done fr v e F hf hl hd=>
  intro H R h R2 hH;obtain⟨c,hc,hcb,E6⟩:=h.cl;have htq:=h.tq;have hn:=h.nil;have hck:=h.fix.ck i c hc hn;have u7:=h.il;obtain⟨na,nc,N2,of0⟩:=h.rel;have hyb:R.yb=R0.yb:=by rw[of0]
  have hR0:R0.cl=R.cl:=by rw[of0]
  have Rk0:R0.evs=R.evs:=by rw[of0]
  have hsd:=h.fix.side i u7 hn;have hlen:R.ends.length=R.m:=h.fix.mem.en0;have him:i<R.ends.length:=by have:=h.fix.mem.lcl;omega
  have key:∀x:Nat,Xn0 c (x:Int) e->((st=false/\(Y.B4 q t).g8= .inr x/\gh v 1=(Y.B4 q t).N2.length/\∃m,(∀j,j≠i->Y.le j (gm v) m)/\Y.Inv (Y.B4 q t).s m v F)\/(st=true/\x=0/\∃m,(∀j,j≠i->Y.le j (gm v) m)/\Y.Inv (Y.sAt q t) m v F))->v.os=w0.os->v.output=w0.output->Fin prog Post X (Γ.gi i) (G fr (Γ.top i)) (over H v):=by
   intro x hx hk hos by0;have hg:Rg (fun b=>R.fp b\/b=Γ.eb i) (over H v).heap.size (over H v) (over H v) w0.heap.size R:=⟨h.fix.mem,fe0.refl _ _ _,fun k hk=>.inl (.inl hk),Nat.le_refl _⟩
   refine hck.top.leave (x:Int) hg rfl hc rfl hck.ha h.he (.inl (.inr rfl)) hx h.bx0 (by rw[hyb];exact hX0) h.fix.dn h.fix.O2 (fun w' L6 heb=>?_) (je0 hH hl);have He0:∀j,j≠i->(R.ends.set i (x:Int))[j]? =R.ends[j]?:=fun j hj=>by rw[List.getElem?_set_ne (Ne.symm hj)]
   have hmk:∀s m,(∀j,j≠i->Y.le j (gm v) m)->Y.Inv s m v F->_:=fun s m hm hs=>h.home hY hn (c':={c with wt:=false}) (ends:=R.ends.set i (x:Int)) hc rfl rfl rfl L6 rfl (fun k hk=>hk) heb He0 F hm hs ⟨hos,by0⟩ (sh:=none) (fun s e=>by cases e) (f:=.inr x) (N:=fun _=>False) (fun b hb=>hb.elim) (fun P8=>.inr ⟨hn,rfl,by simp[him],O8⟩);rcases hk with⟨h1,h2,h3,m,hm,h4⟩|⟨h1,h2,m,hm,h3⟩
   ·have kl0:c.st=false:=(R2 c hc).trans h1;have wc0:R.N2=n0++tell i at_ ((Y.B4 q t).N2.take (gh v 1)):=by
     rcases E6 with E6|E6
     ·exact E6.2.2.1
     ·rw[kl0]at E6;exact absurd E6.2.1 (by decide)
    obtain⟨h7,a,b,e'⟩:=hmk _ m hm h4;rw[<- h2]at h7;refine G7 _ _ _ _ (.inl ⟨h1,h7,a,b,c,{c with wt:=false},by rw[hR0];exact hc,rfl,e'.trans ?_⟩)
    ·rw[h2,show im0 R0.ends i (Sum.inr x:Y.L ⊕ Nat)=R.ends.set i (x:Int)from by rw[of0];rfl,wc0,h3,List.take_length,Rk0,h.atq]
   ·have kl0:c.st=true:=(R2 c hc).trans h1;have wc0:R.N2=n0:=by
     rcases E6 with E6|E6
     ·rw[kl0]at E6;exact absurd E6.2.1 (by decide)
     ·exact E6.2.2
    obtain⟨h7,a,b,e'⟩:=hmk _ m hm h3;subst h2;refine G7 _ _ _ _ (.inr ⟨h1,h7,a,b,c,{c with wt:=false},by rw[hR0];exact hc,rfl,e'.trans ?_⟩)
    ·rw[show R0.ends.set i 0=R.ends.set i ((0:Nat):Int)from by rw[of0];rfl,wc0]
  have Rl0:gh v 2=0->c.st=false:=fun z=>by rcases E6 with E6|E6;exact E6.2.1;have:=E6.1;omega
  have yd0:gh v 2=1->c.st=true:=fun z=>by rcases E6 with E6|E6;have:=E6.1;omega;exact E6.2.1
  have S2:∀(x:Nat) m,(Y.cfg fb q w0 i cb (Γ.top i)).Told v m F (.inr x)->(st=false/\(Y.B4 q t).g8= .inr x/\gh v 1=(Y.B4 q t).N2.length/\∃m,(∀j,j≠i->Y.le j (gm v) m)/\Y.Inv (Y.B4 q t).s m v F):=fun x m ht=>
   ⟨(R2 c hc).symm.trans (Rl0 ht.on),by rw[<- htq];exact ht.g8,by rw[<- htq];exact ht.N2,m,ht.le,by rw[<- htq];exact ht.inv⟩
  cases e with
  |outgrown=>exact hd.elim
  |returned x=>
   rcases hd with⟨m,ht⟩|⟨h2,h3,h4,h5⟩
   ·exact key 1 (.inr ⟨Rl0 ht.on,rfl⟩) (.inl (S2 1 m ht)) ht.os ht.output
   ·exact key 0 (.inl ⟨yd0 h2,rfl⟩) (.inr ⟨(R2 c hc).symm.trans (yd0 h2),rfl,by rw[<- htq];exact h3⟩) h4 h5
  |panicked ch=>
   obtain⟨R6,⟨m,ht⟩|⟨h2,h3,h4,h5⟩⟩:=hd
   ·exact key 2 ⟨R6,.inr ⟨Rl0 ht.on,rfl⟩⟩ (.inl (S2 2 m ht)) ht.os ht.output
   ·exact key 0 ⟨R6,.inl ⟨yd0 h2,rfl⟩⟩ (.inr ⟨(R2 c hc).symm.trans (yd0 h2),rfl,by rw[<- htq];exact h3⟩) h4 h5
end
end
section
attribute [local irreducible] KK
def upN {α:Type} (f:Nat->α) (i:Nat) (x:α):Nat->α:=fun j=>if j=i then x else f j
theorem l5 {α:Type} {f:Nat->α} {i:Nat} {x:α} {j:Nat} (h:j≠i):upN f i x j=f j:=by simp[upN,h]
theorem R4 {α:Type} {f:Nat->α} {i:Nat} {x:α}:upN f i x i=x:=by simp[upN]
def Geo.add (Γ:Geo) (i g a e:Nat) (top:List Frame):Geo:=⟨Γ.gm,upN Γ.gi i g,upN Γ.ab i a,upN Γ.eb i e,upN Γ.top i top,upN Γ.pv i fun _=>False⟩
def wd0 (X:Gh) (cb rc:Nat) (s:G5):Gh :=
 {((Gh.hire {X.lower cb with pend:=1,cap:=X.cap+1,dn:=0} s).lower rc)with N7:=fun c=>X.N7 c\/c=rc,stay:=Go.ConcN.upd X.stay X.n [(⟨cb,2,none⟩,.chan (some rc))]}
section
variable {Y:Sys}{fb:Nat->FuncId}{q:PR Y}{Γ:Geo}{X:Gh}{R:Rn}{w w1:World}{Mn:Nat->Option Obj}{w0:World}{ft:Nat->Option (Y.L ⊕ Nat)}{i:Nat}
theorem bz0 {α:Type} {l:List α} {x y:α} {j:Nat} (h:(l ++ [x])[j]? =some y):l[j]? =some y\/(j=l.length/\x=y):=by
 rcases Nat.lt_trichotomy j l.length with z|z|z
 ·rw[List.getElem?_append_left z]at h;exact .inl h
 ·subst z;simp at h;exact .inr ⟨rfl,h⟩
 ·rw[List.getElem?_eq_none (by simp;omega)]at h;cases h
theorem Fix.Rm0 (hY:LeOk Y) (h:Fix Y fb q w0 Γ X R w Mn none ft) (hn:Y.nil i=true) (hi:R.cl.length=i) {cb rc:Nat} {a:Option Addr} {n:Nat} (him:i<R.m) (hcb:w.heap.size <=cb) (hg:Rg R.fp w.heap.size w w1 w0.heap.size {R with ca:=a,cc:=n,cl:=R.cl ++ [Z3 cb rc],ends:=R.ends.set i 1}) (hft:ft i=none) :
  Fix Y fb q w0 Γ (X.lower cb) {R with ca:=a,cc:=n,cl:=R.cl ++ [Z3 cb rc],ends:=R.ends.set i 1} w1 Mn none (fun j=>if j=i then some (.inr 1) else ft j):=by
 have H2:∀b,b<w.heap.size->¬R.fp b->w1.heap[b]? =w.heap[b]?:=hg.md.block;have hle:∀j,j<(R.cl ++ [Z3 cb rc]).length->Y.nil j=false->j<R.cl.length:=fun j hj x7=>by
  rw[List.length_append,List.length_singleton]at hj;rcases Nat.lt_or_ge j R.cl.length with z|z
  ·exact z
  ·have:j=i:=by omega
   rw[this,hn]at x7;cases x7
 have hold:∀j c,(R.cl ++ [Z3 cb rc])[j]? =some c->Y.nil j=false->R.cl[j]? =some c:=fun j c hc x7=>by
  rcases bz0 hc with z|⟨z,_⟩
  ·exact z
  ·rw[z,hi,hn]at x7;cases x7
 have B3:R.ends.length=R.m:=h.mem.en0;have hfp:∀b,Rn.fp {R with ca:=a,cc:=n,cl:=R.cl ++ [Z3 cb rc],ends:=R.ends.set i 1} b->R.fp b\/w.heap.size <=b:=hg.fp;have hnf:∀b,b<w.heap.size->¬R.fp b->¬Rn.fp {R with ca:=a,cc:=n,cl:=R.cl ++ [Z3 cb rc],ends:=R.ends.set i 1} b:=fun b hb hf z=>(hfp b z).elim hf (Nat.not_le_of_lt hb);refine⟨hg.m,h.m,fun j c hc _=>?_,fun j c hc x7=>?_,fun b hb=>?_,fun j hj x7=>?_,fun j b hb=>?_,fun b hb=>?_,h.il0,fun z=>hg.md.os.trans (h.os z),fun z=>hg.md.output.trans (h.output z),Nat.le_trans h.size hg.md.size,h.O2,h.jk0,h.chy,fun g s L6 hs=>?_,fun j k hj hk x7 hnk=>h.yc0 j k (hle j hj x7) (hle k hk hnk) x7 hnk,fun j k hj hk x7 hnk=>h.rm0 j k (hle j hj x7) (hle k hk hnk) x7 hnk,fun j k c d hc hd x7 hnk=>h.Cl0 j k c d (hold j c hc x7) (hold k d hd hnk) x7 hnk,fun j c hc x7=>h.ry j c (hold j c hc x7) x7,h.dn,h.pend,?_,?_,fun b hb=>h.O4 b (Nat.le_trans hg.md.size hb),h.ls0,⟨h.base.le,fun b hb=>hb.elim (h.base.low b) fun e=>by have:=h.base.le;have:=h.size;omega,h.base.pl⟩⟩
 ·rcases bz0 hc with z|⟨z,rfl⟩
  ·have hjl:=(List.getElem?_eq_some_iff.1 z).1;obtain⟨f,h1,h2⟩:=h.cl j c z (by simp);have j3:j≠i:=by omega
   refine⟨f,by simp[j3,h1],h2.y5 (Γ':=Γ) (hY.trans _) (hY.refl _ Γ.gm) (fun b hb=>H2 b (h.pv j b hb).1 (h.pv j b hb).2.1) hg.md.size (fun _=>rfl) (fun x7=>?_) rfl rfl rfl rfl (by show(R.ends.set i 1)[j]? =_;rw[List.getElem?_set_ne (Ne.symm j3)])⟩;exact H2 _ (h.ck j c z x7).he.choose_spec.lt (h.side j hjl x7).2.2.2
  ·rw[hi]at z;subst z;refine⟨.inr 1,by simp,.inl ⟨hn,rfl,rfl,?_⟩⟩;show(R.ends.set j 1)[j]? =some 1;simp[B3,him]
 ·have M6:=hold j c hc x7;have hk:=h.ck j c M6 x7;have hjl:=(List.getElem?_eq_some_iff.1 M6).1;have hs:=h.side j hjl x7;refine⟨hk.top,(H2 _ hk.ha.lt hs.2.2.1).trans hk.ha,?_,hk.bx0,hk.stay,hk.ch⟩;obtain⟨en,he⟩:=hk.he;exact⟨en,(H2 _ he.lt hs.2.2.2).trans he⟩
 ·rcases hfp b hb with z|z
  ·exact h.fpB b z
  ·exact Nat.le_trans h.size z
 ·have hjl:=hle j hj x7;have hs:=h.side j hjl x7;have hk:=h.ck j _ (List.getElem?_eq_getElem hjl) x7;exact⟨hs.1,hs.2.1,hnf _ hk.ha.lt hs.2.2.1,hnf _ hk.he.choose_spec.lt hs.2.2.2⟩
 ·have hp:=h.pv j b hb;exact⟨Nat.lt_of_lt_of_le hp.1 hg.md.size,hnf b hp.1 hp.2.1,hp.2.2.1,fun k hk hnk=>hp.2.2.2.1 k (hle k hk hnk) hnk,hp.2.2.2.2⟩
 ·have hm:=h.mn b hb;have P7:b<w.heap.size:=by
   rcases Nat.lt_or_ge b w.heap.size with z|z
   ·exact z
   ·exact absurd (hm.1.symm.trans (Array.getElem?_eq_none z)) hb
  exact⟨(H2 b P7 hm.2.1).trans hm.1,hnf b P7 hm.2.1,fun k hk hnk=>hm.2.2 k (hle k hk hnk) hnk⟩
 ·obtain⟨j,c,h1,h2⟩:=h.Q3 g s L6 hs;have hjl:=(List.getElem?_eq_some_iff.1 h1).1;exact⟨j,c,by show(R.cl ++ [Z3 cb rc])[j]? =some c;rw[List.getElem?_append_left hjl];exact h1,h2⟩
 ·show X.cap <=(R.cl ++ [Z3 cb rc]).length;have:=h.cap;simp;omega
 ·have hu:=h.under.mono hg.md.size;have E6:cb<w1.heap.size:=(hg.m.blk i (Z3 cb rc) (by show(R.cl ++ [Z3 cb rc])[i]? =_;rw[<- hi];simp)).lt;exact⟨hu.stay,hu.j4,hu.N7,hu.O2,fun b hb=>by
   rcases hb with z|rfl
   ·exact hu.low b z
   ·exact E6⟩
theorem Fix.hire (hY:LeOk Y) (h:Fix Y fb q w0 Γ X R w Mn none ft) (hn:Y.nil i=false) (hi:R.cl.length=i) {cb rc T6 A6:Nat} {a:Option Addr} {n:Nat} {top:List Frame} {s:G5} (hs:s.ch=R.yb) (hM:L4 w1 w0.heap.size {R with ca:=a,cc:=n,cl:=R.cl ++ [Z3 cb rc]}) (B2:w.heap.size <=w1.heap.size) (_hos:w1.os=w.os/\w1.output=w.output)
  (H2:∀b,b<w.heap.size->¬R.fp b->w1.heap[b]? =w.heap[b]?) (hfp:∀b,Rn.fp {R with ca:=a,cc:=n,cl:=R.cl ++ [Z3 cb rc]} b->R.fp b\/w.heap.size <=b) (hcb:w.heap.size <=cb) (hrc:w.heap.size <=rc/\rc<w1.heap.size) (hab:w.heap.size <=T6) (heb:w.heap.size <=A6) (hA:I1 w1 T6 #[.p cb] 91 (0,0)) (hE:I1 w1 A6 #[.bool false] 4 (0,0))
  (hnA:¬Rn.fp {R with ca:=a,cc:=n,cl:=R.cl ++ [Z3 cb rc]} T6) (hnE:¬Rn.fp {R with ca:=a,cc:=n,cl:=R.cl ++ [Z3 cb rc]} A6) (hT:Gm0 top T6 A6 R.rb cb) :
  Fix Y fb q w0 (Γ.add i X.n T6 A6 top) (wd0 X cb rc s) {R with ca:=a,cc:=n,cl:=R.cl ++ [Z3 cb rc]} w1 Mn (some i) ft:=by
 have hle:∀j,j<(R.cl ++ [Z3 cb rc]).length->j≠i->j<R.cl.length:=fun j hj j3=>by
  rw[List.length_append,List.length_singleton]at hj;omega
 have hold:∀j c,(R.cl ++ [Z3 cb rc])[j]? =some c->j≠i->R.cl[j]? =some c:=fun j c hc j3=>by
  rcases bz0 hc with z|⟨z,_⟩
  ·exact z
  ·exact absurd (z.trans hi) j3
 have C1:∀c,(R.cl ++ [Z3 cb rc])[i]? =some c->c=Z3 cb rc:=fun c hc=>by
  rw[<- hi]at hc;simp at hc;exact hc.symm
 have hnf:∀b,b<w.heap.size->¬R.fp b->¬Rn.fp {R with ca:=a,cc:=n,cl:=R.cl ++ [Z3 cb rc]} b:=fun b hb hf z=>(hfp b z).elim hf (Nat.not_le_of_lt hb);have hgi:∀{j},j≠i->(Γ.add i X.n T6 A6 top).gi j=Γ.gi j:=fun hj=>l5 hj;have Hf0:(Γ.add i X.n T6 A6 top).gi i=X.n:=R4;have Lu0:∀{j},j≠i->(Γ.add i X.n T6 A6 top).ab j=Γ.ab j:=fun hj=>l5 hj;have Lv0:(Γ.add i X.n T6 A6 top).ab i=T6:=R4;have uc0:∀{j},j≠i->(Γ.add i X.n T6 A6 top).eb j=Γ.eb j:=fun hj=>l5 hj;have we0:(Γ.add i X.n T6 A6 top).eb i=A6:=R4;have htn:∀{j},j≠i->(Γ.add i X.n T6 A6 top).top j=Γ.top j:=fun hj=>l5 hj;have hti:(Γ.add i X.n T6 A6 top).top i=top:=R4;have hpn:∀{j},j≠i->(Γ.add i X.n T6 A6 top).pv j=Γ.pv j:=fun hj=>l5 hj;have hpi:(Γ.add i X.n T6 A6 top).pv i=fun _=>False:=R4;have hgn:∀j,j<R.cl.length->Y.nil j=false->Γ.gi j≠X.n:=fun j hj x7 e=>by
  have:=(h.ck j _ (List.getElem?_eq_getElem hj) x7).bx0;omega
 have u6:∀g,g≠0->(wd0 X cb rc s).D1 g=X.D1 g:=fun g hg=>Go.ConcN.upd_ne _ _ hg;have Hg0:∀g,g≠X.n->(wd0 X cb rc s).stay g=X.stay g:=fun g hg=>Go.ConcN.upd_ne _ _ hg;have Hh0:∀b,b<w.heap.size->(∀k,k<R.cl.length->Y.nil k=false->b≠Γ.ab k/\b≠Γ.eb k)->∀k,k<(R.cl ++ [Z3 cb rc]).length->Y.nil k=false->b≠(Γ.add i X.n T6 A6 top).ab k/\b≠(Γ.add i X.n T6 A6 top).eb k:=fun b hb hk k hkl hnk=>by
  by_cases r9:k=i
  ·rw[r9,Lv0,we0];constructor <;> omega
  ·rw[Lu0 r9,uc0 r9];exact hk k (hle k hkl r9) hnk
 refine⟨hM,h.m,fun j c hc hj=>?_,fun j c hc x7=>?_,fun b hb=>?_,fun j hj x7=>?_,fun j b hb=>?_,fun b hb=>?_,Nat.succ_pos _,(fun z=>by cases z),(fun z=>by cases z),Nat.le_trans h.size B2,h.O2,?_,.inl h.chy,fun g s' L6 hs'=>?_,fun j k hj hk x7 hnk=>?_,fun j k hj hk x7 hnk=>?_,fun j k c d hc hd x7 hnk=>?_,fun j c hc x7=>?_,rfl,rfl,?_,?_,fun b hb=>h.O4 b (Nat.le_trans B2 hb),(fun z=>by cases z),⟨h.base.le,fun b hb=>?_,h.base.pl⟩⟩
 ·have j3:j≠i:=fun e=>hj (by rw[e]);have z:=hold j c hc j3;have hjl:=(List.getElem?_eq_some_iff.1 z).1;obtain⟨f,h1,h2⟩:=h.cl j c z (by simp);refine⟨f,h1,h2.y5 (Γ':=Γ.add i X.n T6 A6 top) (hY.trans _) (hY.refl _ Γ.gm) (fun b hb=>H2 b (h.pv j b hb).1 (h.pv j b hb).2.1) B2 (fun x7=>?_) (fun x7=>?_) (uc0 j3) (hgi j3) (htn j3) (hpn j3) rfl⟩
  ·have:=(h.ck j c z x7).bx0;exact u6 _ (by omega)
  ·exact H2 _ (h.ck j c z x7).he.choose_spec.lt (h.side j hjl x7).2.2.2
 ·by_cases j3:j=i
  ·subst j3;obtain rfl:=C1 c hc;refine⟨by rw[hti,Lv0,we0];exact hT,by rw[Lv0];exact hA,⟨false,by rw[we0];exact hE⟩,⟨by rw[Hf0];exact h.il0,by rw[Hf0];exact Nat.lt_succ_self _⟩,by rw[Hf0];exact Go.ConcN.upd_same _ _ _,.inr rfl⟩
  ·have z:=hold j c hc j3;have hk:=h.ck j c z x7;have hjl:=(List.getElem?_eq_some_iff.1 z).1;have hs:=h.side j hjl x7;refine⟨by rw[htn j3,Lu0 j3,uc0 j3];exact hk.top,by rw[Lu0 j3];exact(H2 _ hk.ha.lt hs.2.2.1).trans hk.ha,?_,⟨by rw[hgi j3];exact hk.bx0.1,by rw[hgi j3];exact Nat.lt_succ_of_lt hk.bx0.2⟩,by rw[hgi j3,Hg0 _ (hgn j hjl x7)];exact hk.stay,.inl hk.ch⟩;obtain⟨en,he⟩:=hk.he;exact⟨en,by rw[uc0 j3];exact(H2 _ he.lt hs.2.2.2).trans he⟩
 ·rcases hfp b hb with z|z
  ·exact h.fpB b z
  ·exact Nat.le_trans h.size z
 ·by_cases j3:j=i
  ·subst j3;rw[Lv0,we0];exact⟨Nat.le_trans h.size hab,Nat.le_trans h.size heb,hnA,hnE⟩
  ·have hjl:=hle j hj j3;have hs:=h.side j hjl x7;have hk:=h.ck j _ (List.getElem?_eq_getElem hjl) x7;rw[Lu0 j3,uc0 j3];exact⟨hs.1,hs.2.1,hnf _ hk.ha.lt hs.2.2.1,hnf _ hk.he.choose_spec.lt hs.2.2.2⟩
 ·by_cases j3:j=i
  ·subst j3;rw[hpi]at hb;exact hb.elim
  ·rw[hpn j3]at hb;have hp:=h.pv j b hb;refine⟨Nat.lt_of_lt_of_le hp.1 B2,hnf b hp.1 hp.2.1,hp.2.2.1,Hh0 b hp.1 hp.2.2.2.1,fun k hk hkp=>?_⟩;by_cases r9:k=i
   ·subst r9;rw[hpi]at hkp;exact hkp
   ·rw[hpn r9]at hkp;exact hp.2.2.2.2 k hk hkp
 ·have hm:=h.mn b hb;have P7:b<w.heap.size:=by
   rcases Nat.lt_or_ge b w.heap.size with z|z
   ·exact z
   ·exact absurd (hm.1.symm.trans (Array.getElem?_eq_none z)) hb
  exact⟨(H2 b P7 hm.2.1).trans hm.1,hnf b P7 hm.2.1,Hh0 b P7 hm.2.2⟩
 ·rw[Hg0 0 (by have:=h.il0;omega)];exact h.jk0
 ·rw[u6 g L6]at hs';obtain⟨j,c,h1,h2,h3,h4,_⟩:=h.Q3 g s' L6 hs';have hjl:=(List.getElem?_eq_some_iff.1 h1).1;have j3:j≠i:=by omega
  exact⟨j,c,by show(R.cl ++ [Z3 cb rc])[j]? =some c;rw[List.getElem?_append_left hjl];exact h1,h2,by rw[hgi j3];exact h3,h4,fun e=>j3 (Option.some.inj e)⟩
 ·intro e;by_cases j3:j=i <;> by_cases r9:k=i
  ·rw[j3,r9]
  ·rw[j3,Hf0,hgi r9]at e;exact absurd e.symm (hgn k (hle k hk r9) hnk)
  ·rw[r9,Hf0,hgi j3]at e;exact absurd e (hgn j (hle j hj j3) x7)
  ·rw[hgi j3,hgi r9]at e;exact h.yc0 j k (hle j hj j3) (hle k hk r9) x7 hnk e
 ·have hlo:∀j,j<R.cl.length->Y.nil j=false->Γ.eb j<w.heap.size:=fun j hj x7=>(h.ck j _ (List.getElem?_eq_getElem hj) x7).he.choose_spec.lt;intro e;by_cases j3:j=i <;> by_cases r9:k=i
  ·rw[j3,r9]
  ·rw[j3,we0,uc0 r9]at e;have:=hlo k (hle k hk r9) hnk;omega
  ·rw[r9,we0,uc0 j3]at e;have:=hlo j (hle j hj j3) x7;omega
  ·rw[uc0 j3,uc0 r9]at e;exact h.rm0 j k (hle j hj j3) (hle k hk r9) x7 hnk e
 ·have hlo:∀j c,R.cl[j]? =some c->Y.nil j=false->c.rc<w.heap.size:=fun j c hc x7=>h.under.N7 _ (h.ck j c hc x7).ch;intro e;by_cases j3:j=i <;> by_cases r9:k=i
  ·rw[j3,r9]
  ·subst j3;obtain rfl:=C1 c hc;have:=hlo k d (hold k d hd r9) hnk;have e:rc=d.rc:=e;omega
  ·subst r9;obtain rfl:=C1 d hd;have:=hlo j c (hold j c hc j3) x7;have e:c.rc=rc:=e;omega
  ·exact h.Cl0 j k c d (hold j c hc j3) (hold k d hd r9) x7 hnk e
 ·by_cases j3:j=i
  ·subst j3;obtain rfl:=C1 c hc;have:=h.under.N7 _ h.chy;show rc≠R.yb;omega
  ·exact h.ry j c (hold j c hc j3) x7
 ·show X.cap+1 <=(R.cl ++ [Z3 cb rc]).length;have:=h.cap;simp;omega
 ·have hu:=h.under.mono B2;have E6:cb<w1.heap.size:=(hM.blk i (Z3 cb rc) (by show(R.cl ++ [Z3 cb rc])[i]? =_;rw[<- hi];simp)).lt;refine⟨fun g p hp=>?_,hu.j4,fun b hb=>?_,hu.O2,fun b hb=>?_⟩
  ·by_cases hg:g=X.n
   ·subst hg;have hp':p∈Go.ConcN.upd X.stay X.n [((⟨cb,2,none⟩:Addr),Value.chan (some rc))] X.n:=hp;rw[Go.ConcN.upd_same]at hp';simp at hp';rw[hp'];exact E6
   ·rw[Hg0 g hg]at hp;exact hu.stay g p hp
  ·rcases hb with z|rfl
   ·exact hu.N7 b z
   ·exact hrc.2
  ·rcases hb with(z|rfl)|rfl
   ·exact hu.low b z
   ·exact E6
   ·exact hrc.2
 ·have h1:=h.base.le;have h2:=h.size;rcases hb with(z|rfl)|rfl
  ·exact h.base.low b z
  ·omega
  ·omega
end
end
end Go.Vy.Sc
end
section
namespace Go.Vy.Sc
open Go Go.Conc Go.Yc Go.RowKit Go.Proofs Go.Proofs.YtnifpkopeheodaaGreat Tryz
open Go.Vc Go.Wg
attribute [local irreducible] KK
def tpT (w:World) (t n s:Nat) (m:Gm):Tape:=fun j q=>if 3 <=j then m (j-3) else(qt0 (qt0 (qt0 w 0 t) 1 n) 2 s).tape j q
theorem tpm (U w:World) (t n s d:Nat) (m:Gm):gm (Yc.W2 U (tpT w t n s m) d)=m:=funext fun i=>by
 show(if 3 <=i+3 then m (i+3-3) else(qt0 (qt0 (qt0 w 0 t) 1 n) 2 s).tape (i+3) (.sched 0))=m i;rw[if_pos (by omega),Nat.add_sub_cancel]
theorem tp1 (U w:World) (t n s d:Nat) (m:Gm):gh (Yc.W2 U (tpT w t n s m) d) 1=n:=rfl
structure ye0 {P:Program} (K:Q8 P) (beg:K.S->gl0 K.S K.L) (u:World) (F:Nat->Prop):Prop where
 inv:K.Inv (K.sOf (gh u 0)) (gm u) u F
 N2:gh u 1=0
 on:gh u 2=0
 out:K.out (gh u 0)=beg (K.sOf (gh u 0))
 os:u.os=K.base.os
 output:u.output=K.base.output
 at_:K.BAt (gh u 0)
structure jm0 (Y:Sys) (fb:Nat->FuncId) (caps:Nat->Array Value) (fv:Nat->Value) (ba sa:Option Addr) (sn:Nat) (sc:Nat->Int):Prop where
 sys:lt0 Y
 m1:Y.m <=16
 sn1:sn <=262144
 bsl:SL ba Y.m
 ssl:SL sa sn
 fn:∀i,i<Y.m->(Y.nil i=true/\fv i= .nilFunc)\/(Y.nil i=false/\fv i= .func (.func (fb i)) #[] (caps i)/\∃fn,prog.funcs[fb i]? =some fn/\fn.body.isSome=true/\(fn.name== "runtime.NumGoroutine")=false)
 N2:(Y.pn sc sn).N2.length <=1000000000
 body:∀(base:World) (i cb:Nat) (top:List Frame) (u:World) (F:Nat->Prop),i<Y.m->Y.nil i=false->ye0 (Y.cfg fb (Y.pn sc sn) base i cb top) (Y.beg i) u F->r8 (Y.cfg fb (Y.pn sc sn) base i cb top) (G (Frame.enter prog (fb i) (#[] ++ #[.p cb]++caps i) .normal) top) u
def as0 {L:Type}:Option (L ⊕ Nat)->Int
 |some (.inr x)=>x
 |_=>0
def Rn0 (Y:Sys) (j:Nat):Option (Y.L ⊕ Nat)->Stp
 |some (.inl l)=>Y.stp j l
 |_=>sp0
def B8 {L:Type}:Option (L ⊕ Nat)->Option (L ⊕ Nat)
 |some (.inl _)=>some (.inr 0)
 |x=>x
structure Tie (Y:Sys) (rb0:Nat) (p:PR Y) (R:Rn):Prop where
 rb:R.rb=rb0
 evs:R.evs=p.evs
 N2:R.N2=p.N2
 used:R.used=p.used
 len:R.cl.length=p.ft.length
 N1:∀j c,R.cl[j]? =some c->c.N1=p.who.count (some j)
 ends:∀j,j<Y.m->R.ends[j]? =some (as0 p.ft[j]?)
namespace Sys
section
variable {Y:Sys}
theorem Lw0 (p:PR Y):p.N2 <+: (Y.bgn p).N2:=by
 unfold bgn;split
 ·exact List.prefix_refl _
 ·exact List.prefix_append _ _
theorem Hi0 (p:PR Y) (i:Nat):p.N2 <+: (Y.y5 p i).N2:=by
 unfold y5;split
 ·exact List.prefix_append _ _
 ·exact List.prefix_refl _
theorem Hj0 (p:PR Y) (e:Int):p.N2 <+: (Y.step p e).N2:=by
 unfold step;split
 ·exact Hi0 _ _
 ·exact List.prefix_refl _
theorem Hk0 {n k:Nat}:(Y.M4 n).N2 <+: (Y.M4 (n+k)).N2:=by
 induction k with
 |zero=>exact List.prefix_refl _
 |succ k ih=>exact ih.trans (Lw0 _)
theorem Hl0 {sc:Nat->Int} {n k:Nat}:(Y.pn sc n).N2 <+: (Y.pn sc (n+k)).N2:=by
 induction k with
 |zero=>exact List.prefix_refl _
 |succ k ih=>exact ih.trans (Hj0 _ _)
theorem dq0:∀(n j:Nat),(Y.M4 n).who.count (some j)=0
 |0,_=>rfl
 |n+1,j=>by
  show(Y.bgn (Y.M4 n)).who.count (some j)=0;unfold bgn;split
  ·exact dq0 n j
  ·simp[dq0 n j]
theorem wf0:∀n,(Y.M4 n).evs=[]/\(Y.M4 n).used=0
 |0=>⟨rfl,rfl⟩
 |n+1=>by
  show(Y.bgn (Y.M4 n)).evs=[]/\(Y.bgn (Y.M4 n)).used=0;unfold bgn;split <;> exact wf0 n
theorem in0:∀n,(Y.M4 n).outs.length <=n
 |0=>Nat.le_refl _
 |n+1=>by
  show(Y.bgn (Y.M4 n)).outs.length <=n+1;have:=in0 n;unfold bgn;split <;> simp <;> omega
theorem Hm0 (p:PR Y) (e:Int):(Y.step p e).evs.length <=p.evs.length+1/\(Y.step p e).outs.length <=p.outs.length+1:=by
 unfold step;split
 ·unfold y5;split <;> simp
 ·simp
theorem yf0 (sc:Nat->Int):∀n,(Y.pn sc n).evs.length <=n/\(Y.pn sc n).outs.length <=Y.m+n
 |0=>by
  have h1:=(wf0 (Y:=Y) Y.m).1;have h2:=in0 (Y:=Y) Y.m;show(Y.M4 Y.m).evs.length <=0/\_;rw[h1];exact⟨Nat.le_refl _,by simpa [pn]using h2⟩
 |n+1=>by
  have h1:=yf0 sc n;have h2:=Hm0 (Y:=Y) (Y.pn sc n) (sc n);show(Y.step (Y.pn sc n) (sc n)).evs.length <=_/\(Y.step (Y.pn sc n) (sc n)).outs.length <=_;omega
theorem wg0 {sc:Nat->Int} {n:Nat} (h:Y.rds (Y.pn sc n)=[]):∀k,Y.pn sc (n+k)=Y.pn sc n
 |0=>rfl
 |k+1=>by
  show Y.step (Y.pn sc (n+k)) (sc (n+k))=_;rw[wg0 h k];unfold step;rw[h];rfl
theorem ud0 {p:PR Y} {j i:Nat} (h:(Y.rds p)[j]? =some i):i<Y.m/\Y.dp0 p i=true:=by
 have:=List.mem_of_getElem? h;simpa [rds]using this
end
end Sys
section
variable {Y:Sys}{fb:Nat->FuncId}{caps:Nat->Array Value}{fv:Nat->Value}{ba sa:Option Addr}{sn:Nat}{sc:Nat->Int}{Mn:Nat->Option Obj}{w0:World}{rb0:Nat}
variable (Y fb sn sc Mn w0 rb0) in
def JB (i:Nat) (X:Gh) (R:Rn) (w:World):Prop :=
 i <=Y.m/\(∃Γ,Main Y fb (Y.pn sc sn) w0 Γ X R w Mn (fun j=>(Y.M4 i).ft[j]?) (Y.M4 i).s)/\Tie Y rb0 (Y.M4 i) R/\R.k8=List.replicate Y.m sp0/\R.stuck=false
variable (Y fb sn sc Mn w0 rb0) in
def J2 (n:Nat) (X:Gh) (R:Rn) (w:World):Prop :=
 n <=sn/\(∃Γ,Main Y fb (Y.pn sc sn) w0 Γ X R w Mn (fun j=>(Y.pn sc n).ft[j]?) (Y.pn sc n).s)/\Tie Y rb0 (Y.pn sc n) R/\R.k8=List.replicate Y.m sp0/\R.stuck=false
variable (Y fb sn sc Mn w0 rb0) in
def JE (i:Nat) (X:Gh) (R:Rn) (w:World):Prop :=
 i <=Y.m/\(∃Γ,Main Y fb (Y.pn sc sn) w0 Γ X R w Mn (fun j=>if j<i then B8 ((Y.pn sc sn).ft[j]?) else(Y.pn sc sn).ft[j]?) (Y.pn sc sn).s)/\Tie Y rb0 (Y.pn sc sn) R /\
  (∀j,j<Y.m->R.k8[j]? =some (if j<i then Rn0 Y j ((Y.pn sc sn).ft[j]?) else sp0))/\R.stuck=((Y.pn sc sn).ft.any (·.isLeft)&&(Y.rds (Y.pn sc sn)).isEmpty)
theorem Main.get {Γ:Geo} {X:Gh} {R:Rn} {w:World} {q:PR Y} {ft:Nat->Option (Y.L ⊕ Nat)} {s:Y.S} (h:Main Y fb q w0 Γ X R w Mn ft s):∀b,Mn b≠none->w.heap[b]? =Mn b:=fun b hb=>(h.fix.mn b hb).1
theorem rp0 {i:Nat} (hi:i <=Y.m):Y.Le (Y.M4 i) (Y.pn sc sn):=by
 have h1:Y.Le (Y.M4 i) (Y.M4 Y.m):=by
  have:=Sys.Lr0 (Y:=Y) (n:=i) (k:=Y.m-i)
  rwa [Nat.add_sub_cancel' hi]at this
 have h2:Y.Le (Y.pn sc 0) (Y.pn sc (0+sn)):=Sys.Ot0;rw[Nat.zero_add]at h2;exact h1.trans h2
theorem ue0 {n:Nat} (hi:n <=sn):Y.Le (Y.pn sc n) (Y.pn sc sn):=by
 have:=Sys.Ot0 (Y:=Y) (sc:=sc) (n:=n) (k:=sn-n)
 rwa [Nat.add_sub_cancel' hi]at this
theorem yg0 {i:Nat} (hi:i <=Y.m):(Y.M4 i).N2 <+: (Y.pn sc sn).N2:=by
 have h1:(Y.M4 i).N2 <+: (Y.M4 Y.m).N2:=by
  have:=Sys.Hk0 (Y:=Y) (n:=i) (k:=Y.m-i)
  rwa [Nat.add_sub_cancel' hi]at this
 have h2:(Y.pn sc 0).N2 <+: (Y.pn sc (0+sn)).N2:=Sys.Hl0;rw[Nat.zero_add]at h2;exact h1.trans h2
theorem Hn0 {n:Nat} (hi:n <=sn):(Y.pn sc n).N2 <+: (Y.pn sc sn).N2:=by
 have:=Sys.Hl0 (Y:=Y) (sc:=sc) (n:=n) (k:=sn-n)
 rwa [Nat.add_sub_cancel' hi]at this
theorem ki0 {p:PR Y} {i:Nat} (hi:p.ft.length=i) (x:Y.L ⊕ Nat):(fun j=>if j=i then some x else p.ft[j]?)=fun j=>(p.ft ++ [x])[j]?:=by
 funext j;subst hi;rcases Nat.lt_trichotomy j p.ft.length with h|h|h
 ·rw[if_neg (by omega),List.getElem?_append_left h]
 ·subst h;simp
 ·rw[if_neg (by omega),List.getElem?_eq_none (by omega),List.getElem?_eq_none (by simp;omega)]
theorem Au0 {p:PR Y} {i:Nat} (hi:i<p.ft.length) (x:Y.L ⊕ Nat):(fun j=>if j=i then some x else p.ft[j]?)=fun j=>(p.ft.set i x)[j]?:=by
 funext j;by_cases h:j=i
 ·subst h;simp[hi]
 ·rw[if_neg h,List.getElem?_set_ne (Ne.symm h)]
theorem io0 {e:List Int} {i:Nat} {f:Y.L ⊕ Nat} {g:Nat->Option (Y.L ⊕ Nat)} {m:Nat} (h:∀j,j<m->e[j]? =some (as0 (g j))) (hl:e.length=m) (h0:as0 (g i)=0) (j:Nat) (hj:j<m):(im0 e i f)[j]? =some (as0 (if j=i then some f else g j)):=by
 cases f with
 |inl l=>
  show e[j]? =_;by_cases j3:j=i
  ·subst j3;rw[h j hj,h0,if_pos rfl];rfl
  ·rw[h j hj,if_neg j3]
 |inr x=>
  show(e.set i (x:Int))[j]? =_;by_cases j3:j=i
  ·subst j3;rw[if_pos rfl];simp[hl,hj];rfl
  ·rw[List.getElem?_set_ne (Ne.symm j3),h j hj,if_neg j3]
set_option maxRecDepth 20000 in
theorem Ro0 (hO:jm0 Y fb caps fv ba sa sn sc) {Post:Value->World->Prop} {i:Nat} {X:Gh} {R:Rn} {w w':World} {a:Option Addr} {n cb rc:Nat} (hi:i<Y.m) (hJ:JB Y fb sn sc Mn w0 rb0 i X R w) (hf:fv i≠.nilFunc) (hcb:w.heap.size <=cb) (hrc:w.heap.size <=rc) (B3:cb≠rc) (Z5:ChanAt w' rc)
  (hg:Rg R.fp w.heap.size w w' w0.heap.size {R with ca:=a,cc:=n,cl:=R.cl ++ [Z3 cb rc]}) {me0:Goroutine} (hk:∀X' R' u v,JB Y fb sn sc Mn w0 rb0 (i+1) X' R' u->Fin prog Post X' 0 (Go.Conc.served me0 v) u) :
  Fin prog Post (Gh.hire {X.lower cb with pend:=1,cap:=X.cap+1,dn:=0} ⟨R.yb,.i 0,me0⟩) X.n (born prog (dcall 106 #[.p cb,fv i])) w':=by
 obtain⟨_,⟨Γ,hM⟩,hT,W9,ae0⟩:=hJ;obtain⟨hn,hfv,fn,hfn,hbd,hnm⟩:Y.nil i=false/\fv i= .func (.func (fb i)) #[] (caps i)/\∃fn,prog.funcs[fb i]? =some fn/\fn.body.isSome=true/\(fn.name== "runtime.NumGoroutine")=false:=by
  rcases hO.fn i hi with h|h
  ·exact absurd h.2 hf
  ·exact h
 have hF:=hM.fix;have hlen:R.cl.length=i:=hT.len.trans (Sys.z5 i);have hok:=Sys.ua0 (Y:=Y) i;have hle:Y.Le (Y.M4 (i+1)) (Y.pn sc sn):=rp0 (by omega);have hbg:Y.M4 (i+1)={Y.M4 i with s:=(Y.beg i (Y.M4 i).s).s,ft:=(Y.M4 i).ft ++ [(Y.beg i (Y.M4 i).s).g8],N2:=(Y.M4 i).N2++tell i (Y.M4 i).evs.length (Y.beg i (Y.M4 i).s).N2,outs:=(Y.M4 i).outs ++ [Y.beg i (Y.M4 i).s],who:=(Y.M4 i).who ++ [none]}:=by
  show Y.bgn (Y.M4 i)=_;unfold Sys.bgn;rw[Sys.z5 i,hn];rfl
 generalize hp:Y.M4 i=p at *;have hs:Y.sAt (Y.pn sc sn) p.outs.length=p.s:=Sys.Ls0 hok (by rw[<- hp];exact rp0 (by omega));have ho:Y.B4 (Y.pn sc sn) p.outs.length=Y.beg i p.s:=Sys.Hb0 (p':=Y.M4 (i+1)) (by rw[hbg]) hle;obtain⟨F,hinv,hFf⟩:=hM.inv;have P8:=hO.sys.vis _ _ _ _ hinv;refine Fin.chan (b:=rc) (k:=0) ⟨fun j x hx=>?_,(hF.under.av0 hrc).j4,(hF.under.av0 hrc).N7,(hF.under.av0 hrc).O2⟩ (fun z=>?_) (hF.O4 rc hrc) Z5 ?_
 ·exact(hF.under.av0 hrc).stay j x hx
 ·rcases z with z|z
  ·have:=hF.under.low rc z;omega
  ·exact B3 z.symm
 have hrl:=Z5.lt;have ds1:I1 w' cb ((Z3 cb rc).cells R.rb i) 149 (0,3):=hg.m.blk i (Z3 cb rc) (by show(R.cl ++ [Z3 cb rc])[i]? =_;rw[<- hlen];simp);have Gi0:∀b,b≠rc->(K2 w' rc nothing).heap[b]? =w'.heap[b]?:=fun b hb=>D5 _ _ (Ne.symm hb);have Yb0:I1 (K2 w' rc nothing) cb ((Z3 cb rc).cells R.rb i) 149 (0,3):=(Gi0 cb B3).trans ds1;have Ci0:(K2 w' rc nothing).heap.size=w'.heap.size:=by simp[K2]
 have dt1:¬Rn.fp {R with ca:=a,cc:=n,cl:=R.cl ++ [Z3 cb rc]} rc:=fun z=>by
  have hx:=Z5;have own:∀{E:TypeId} {s n c:Nat} {a:Option Addr} {xs:List Value},Own w' w0.heap.size E s a n c xs->a≠none->rc=ab a->False:=fun h ha e=>by
   obtain⟨cur,hB,_⟩:=h.row ha;unfold ChanAt at hx;rw[e]at hx;unfold S0 at hB;rw[hx]at hB;cases hB
  have blk:∀{b:Nat} {cs:Array Value} {T:TypeId} {f:Nat×Nat},I1 w' b cs T f->rc=b->False:=fun h e=>by
   unfold ChanAt at hx;rw[e]at hx;unfold I1 at h;rw[hx]at h;cases h
  rcases z with e|e|e|⟨ha,e⟩|⟨ha,e⟩|⟨ha,e⟩|⟨j,c,hc,e⟩
  ·exact blk hg.m.run e
  ·exact blk hg.m.ends e
  ·exact blk hg.m.k8 e
  ·exact own hg.m.cls ha e
  ·exact own hg.m.evs ha e
  ·exact own hg.m.N2 ha e
  ·exact blk (hg.m.blk j c hc) e
 have hM2:L4 (K2 w' rc nothing) w0.heap.size {R with ca:=a,cc:=n,cl:=R.cl ++ [Z3 cb rc]}:=hg.m.congr fun b hb=>Gi0 b fun e=>dt1 (e▸hb);refine Fin.stay (l:=[(⟨cb,2,none⟩,.chan (some rc))]) (fun x hx=>?_) ?_
 ·simp at hx;subst hx;exact⟨Yb0.F0 2 rfl,by rw[Yb0.frozen];rfl⟩
 show Fin prog Post (wd0 X cb rc ⟨R.yb,.i 0,me0⟩) X.n _ _;rw[hfv];refine Go0 (i:=i) (c:=Z3 cb rc) hfn hbd hnm hM2 (by show(R.cl ++ [Z3 cb rc])[i]? =_;rw[<- hlen];simp) fun w1 top T6 A6 E5 lA lE hA hE du1=>?_;have Re0:w.heap.size <=w1.heap.size:=Nat.le_trans hg.md.size (by have:=E5.size;omega);have H2:∀b,b<w.heap.size->¬R.fp b->w1.heap[b]? =w.heap[b]?:=fun b hb hf=>by
  rw[E5.block b (by have:=hg.md.size;omega),Gi0 b (by omega)];exact hg.md.block b hb hf
 have hM1:=hM2.A0 E5;have Yc0:∀b,Rn.fp {R with ca:=a,cc:=n,cl:=R.cl ++ [Z3 cb rc]} b->b<(K2 w' rc nothing).heap.size:=fun b hb=>hM2.lt hb;have hsA:w.heap.size <=(K2 w' rc nothing).heap.size:=by rw[Ci0];exact hg.md.size
 have jt0:=hF.hire hO.sys.toLeOk (s:=⟨R.yb,.i 0,me0⟩) (top:=top) hn hlen rfl hM1 Re0 ⟨E5.os.trans hg.md.os,E5.output.trans hg.md.output⟩ H2 hg.fp hcb ⟨hrc,by have:=E5.size;omega⟩ (by omega) (by omega) hA hE (fun z=>by have:=Yc0 _ z;omega) (fun z=>by have:=Yc0 _ z;omega) du1;refine u9 _ _ fun nv=>?_;haveI:DecidablePred F:=fun _=>Classical.propDecidable _;refine kh0 F (bn0 (τ:=tpT w1 p.outs.length 0 0 Γ.gm) (d:=w1.drawn) ?_);have Yd0:∀b,(Rn.fp {R with ca:=a,cc:=n,cl:=R.cl ++ [Z3 cb rc]} b\/Kept Y (Γ.add i X.n T6 A6 top) {R with ca:=a,cc:=n,cl:=R.cl ++ [Z3 cb rc]} Mn b)->¬F b:=fun b hb hFb=>by
  have hv:=P8 b hFb;have hff:=hFf b hFb;rcases hb with hb|hb|⟨k,hk,hnk,hb⟩|⟨j,hb⟩
  ·rcases hg.fp b hb with z|z
   ·exact hff.1 z
   ·omega
  ·exact hff.2 (.inl hb)
  ·by_cases r9:k=i
   ·subst r9;have h1:(Γ.add k X.n T6 A6 top).ab k=T6:=R4;have h2:(Γ.add k X.n T6 A6 top).eb k=A6:=R4;rw[h1,h2]at hb;omega
   ·have h1:(Γ.add i X.n T6 A6 top).ab k=Γ.ab k:=l5 r9;have h2:(Γ.add i X.n T6 A6 top).eb k=Γ.eb k:=l5 r9;rw[h1,h2]at hb;refine hff.2 (.inr (.inl ⟨k,?_,hnk,hb⟩));have hk':k<(R.cl ++ [Z3 cb rc]).length:=hk;rw[List.length_append,List.length_singleton]at hk';omega
  ·by_cases j3:j=i
   ·subst j3;have h1:(Γ.add j X.n T6 A6 top).pv j=fun _=>False:=R4;rw[h1]at hb;exact hb
   ·have h1:(Γ.add i X.n T6 A6 top).pv j=Γ.pv j:=l5 j3;rw[h1]at hb;exact hff.2 (.inr (.inr ⟨j,hb⟩))
 have hgi:(Γ.add i X.n T6 A6 top).gi i=X.n:=R4;have hti:(Γ.add i X.n T6 A6 top).top i=top:=R4;have we0:(Γ.add i X.n T6 A6 top).eb i=A6:=R4;have hpk:Y.N1 (Y.pn sc sn) i p.outs.length=0:=by
  unfold Sys.N1;obtain⟨l,hl⟩:=hle.who;have hw:=hok.who;rw[<- hl,hbg];rw[List.take_append_of_le_length (by simp[hw]),List.take_of_length_le (by simp[hw])];have:=Sys.dq0 (Y:=Y) i i;rw[hp]at this;simp[this]
 have k4:=w8.enter (q:=Y.pn sc sn) (i:=i) (t:=p.outs.length) (at_:=p.evs.length) (cb:=cb) (n0:=p.N2) (R0:={R with ca:=a,cc:=n,cl:=R.cl ++ [Z3 cb rc]}) (τ:=tpT w1 p.outs.length 0 0 Γ.gm) (d:=w1.drawn) hO.sys.toLeOk F jt0 Yd0 nv rfl (tpm _ _ _ _ _ _ _) (congrArg List.length hT.evs) ⟨Z3 cb rc,by show(R.cl ++ [Z3 cb rc])[i]? =_;rw[<- hlen];simp,rfl,.inl ⟨rfl,rfl,by
  show R.N2=_;rw[tp1,hT.N2];simp[tell],hpk.symm⟩⟩ ⟨R.na,R.nc,R.N2,rfl⟩ hn (by rw[we0];exact hE)
 have R2:ye0 (Y.cfg fb (Y.pn sc sn) w0 i cb top) (Y.beg i) (Yc.W2 (E3 F w1) (tpT w1 p.outs.length 0 0 Γ.gm) w1.drawn) F:=by
  refine⟨?_,rfl,rfl,?_,?_,?_,⟨show p.outs.length <=300000 by have h1:=Sys.in0 (Y:=Y) i;rw[hp]at h1;have h2:=hO.m1;omega,p,.inl ⟨i,by omega,hp.symm⟩,rfl,hs.symm,by rw[<- hp];exact Sys.z5 i⟩⟩
  ·show Y.Inv (Y.sAt (Y.pn sc sn) p.outs.length) (gm (Yc.W2 (E3 F w1) (tpT w1 p.outs.length 0 0 Γ.gm) w1.drawn)) _ _;rw[hs,tpm];refine hO.sys.loc _ _ w _ F hinv fun b hb=>?_;show(E3 F w1).heap[b]? =_;rw[E9 _ hb,H2 b (P8 b hb).1 (hFf b hb).1]
  ·show Y.B4 (Y.pn sc sn) p.outs.length=Y.beg i (Y.sAt (Y.pn sc sn) p.outs.length);rw[hs,ho]
  ·exact(E5.os.trans hg.md.os).trans (hF.os rfl)
  ·exact(E5.output.trans hg.md.output).trans (hF.output rfl)
 have hpr:=hO.body w0 i cb top _ F hi hn R2;have key:=ff0 (Post:=Post) (z0:=.i 0) (me0:=me0) (st:=false) (X:=wd0 X cb rc ⟨R.yb,.i 0,me0⟩) (Γ:=Γ.add i X.n T6 A6 top) (Mn:=Mn) (ft:=fun j=>p.ft[j]?) (t:=p.outs.length) (at_:=p.evs.length) (n0:=p.N2) (R0:={R with ca:=a,cc:=n,cl:=R.cl ++ [Z3 cb rc]}) hO.sys (show Go.ConcN.upd X.D1 0 _ 0=_ from Go.ConcN.upd_same _ _ _) (by
   have h1:=(yg0 (Y:=Y) (sc:=sc) (sn:=sn) (i:=i+1) (by omega)).length_le;have h2:=hO.N2;rw[hbg]at h1;rw[ho];simp[tell]at h1;omega) (fun Γ' X' R' w2 hA=>?_) (by rw[hti];exact hpr) _ _ k4 (fun c hc=>by
    have M6:(R.cl ++ [Z3 cb rc])[i]? =some c:=hc;rw[<- hlen]at M6;simp at M6;rw[<- M6])
 ·rw[hgi]at key;exact key
 ·rcases hA with⟨_,hM',na,nc,c,c',hc,hcp,hR⟩|⟨z,_⟩
  ·have hc:(R.cl ++ [Z3 cb rc])[i]? =some c:=hc;have hc0:c=Z3 cb rc:=by rw[<- hlen]at hc;simp at hc;exact hc.symm
   rw[ho,ki0 (by rw[<- hp];exact Sys.z5 i)]at hM';refine hk X' R' w2 _ ?_;subst hR;refine⟨by omega,⟨Γ',by rw[hbg];exact hM'⟩,?_,W9,ae0⟩;rw[hbg];refine⟨hT.rb,hT.evs,?_,hT.used,?_,fun j d hd=>?_,fun j hj=>?_⟩
   ·show p.N2++tell i R.evs.length (Y.B4 (Y.pn sc sn) p.outs.length).N2=_;rw[hT.evs,ho]
   ·show((R.cl ++ [Z3 cb rc]).set i c').length=_;simp[hT.len]
   ·have H5:((R.cl ++ [Z3 cb rc]).set i c')[j]? =some d:=hd;show d.N1=(p.who ++ [none]).count (some j);have hz:p.who.count (some j)=0:=by rw[<- hp];exact Sys.dq0 i j
    rw[List.getElem?_set]at H5;by_cases j3:i=j
    ·subst j3;rw[if_pos rfl,if_pos (by simp[hlen])]at H5;obtain rfl:=Option.some.inj H5;rw[hcp,hc0];simp[hz]
    ·rw[if_neg j3]at H5;rcases bz0 H5 with z|⟨z,_⟩
     ·rw[hT.N1 j d z];simp
     ·omega
   ·show(im0 R.ends i (Y.B4 (Y.pn sc sn) p.outs.length).g8)[j]? =some (as0 ((p.ft ++ [(Y.beg i p.s).g8])[j]?));have K9:p.ft.length=i:=by rw[<- hp];exact Sys.z5 i
    have h0:=io0 (Y:=Y) (f:=(Y.beg i p.s).g8) (g:=fun j=>p.ft[j]?) (i:=i) hT.ends (by rw[hF.mem.en0,hF.m]) (by show as0 p.ft[i]? =0;rw[List.getElem?_eq_none (by omega)];rfl) j hj;rw[ho,h0];exact congrArg (fun f:Nat->Option (Y.L ⊕ Nat)=>some (as0 (f j))) (ki0 K9 (Y.beg i p.s).g8)
  ·cases z
end
end Go.Vy.Sc
end
section
namespace Go.Vy.Sc
open Go Go.Conc Go.Yc Go.RowKit Go.Proofs Go.Proofs.YtnifpkopeheodaaGreat Tryz
open Go.Vc Go.Wg
section
attribute [local irreducible] KK
theorem Lx0 {Post:Value->World->Prop} {X:Gh} {h:Nat} {H:Hid} {cs:List Frame} {cb:Nat} {df:Value} {me:Goroutine} {u:World} {K:World->Prop} (h0:(h==0)=false) {num:Nat} (hme:lp0 cs cb df me) (hd:Bv0 prog (C4 prog 47 cb num) df u K)
  (dv1:∀cs2 u2,Z8 u u2->u2.tape=u.tape->(∀fr,fr.fn=47->Leaves prog fr u2 (.returned (.i num))->em0 prog Post X h H (G fr cs2) u2)->em0 prog Post X h H (G (Frame.enter prog 47 #[.p cb] .normal) cs2) u2)
  (hk:∀u2 fr,Z8 u u2->u2.tape=u.tape->K u2->fr.fn=83->Leaves prog fr u2 (.returned (.tuple #[]))->em0 prog Post X h H (G fr cs) u2):em0 prog Post X h H (Go.Conc.served me (.bool true)) u:=by
 have E6:Cl prog false (fun g x=>Z8 u x->x.tape=u.tape->em0 prog Post X h H g x):=⟨fun g x hr hs he ht=>lh0 hr fun τ d=>by
  obtain⟨g',u',d',hF,hz⟩:=hs τ d;exact⟨g',u',by rw[h0];exact hF,fun he'=>bn0 (hz (he.trans ⟨he'.size,he'.obj⟩) ht)⟩⟩
 exact hme.yes (C4 prog 47 cb num) (fun g x=>Z8 u x->x.tape=u.tape->em0 prog Post X h H g x) ⟨⟨E6,fun g x hz he ht=>An0.2 _ _ fun hv=>hz hv he ht⟩,fun cs2 u2 hz he ht=>dv1 cs2 u2 he ht fun fr h3 h4=>hz fr h3 h4 he ht⟩ u K hd (fun u2 fr h1 h2 h3 he ht=>hk u2 fr he ht h1 h2 h3) (Z8.refl u) rfl
section
variable {Y:Sys}{fb:Nat->FuncId}{caps:Nat->Array Value}{fv:Nat->Value}{ba sa:Option Addr}{sn:Nat}{sc:Nat->Int}{Mn:Nat->Option Obj}{w0:World}{rb0:Nat}
theorem Ly0 {Γ:Geo} {i:Nat} {N:Nat->Prop}:(Γ.put i N).pv i=N:=by funext b;simp[Geo.put]
theorem rq0 {q:PR Y} {Γ:Geo} {X:Gh} {R R1:Rn} {w:World} {ft:Nat->Option (Y.L ⊕ Nat)} {i:Nat} (hF:Fix Y fb q w0 Γ X R w Mn none ft) (hfp:∀b,R1.fp b->R.fp b\/w.heap.size <=b) (hlen:R1.cl.length=R.cl.length) {F:Nat->Prop} (hFf:∀b,F b->¬R.fp b/\¬Kept Y Γ R Mn b) (hFs:∀b,F b->b<w.heap.size) (b:Nat)
  (hb:R1.fp b\/Kept Y (Γ.put i fun _=>False) R1 Mn b):¬(Γ.pv i b\/F b):=by
 intro hV;have hl:b<w.heap.size/\¬R.fp b:=by
  rcases hV with h|h
  ·exact⟨(hF.pv i b h).1,(hF.pv i b h).2.1⟩
  ·exact⟨hFs b h,(hFf b h).1⟩
 rcases hb with hb|hb|⟨k,hk,hnk,hb⟩|⟨j,hb⟩
 ·rcases hfp b hb with z|z
  ·exact hl.2 z
  ·omega
 ·rcases hV with h|h
  ·exact(hF.pv i b h).2.2.1 hb
  ·exact(hFf b h).2 (.inl hb)
 ·rw[hlen]at hk;rcases hV with h|h
  ·have:=(hF.pv i b h).2.2.2.1 k hk hnk;rcases hb with hb|hb
   ·exact this.1 hb
   ·exact this.2 hb
  ·exact(hFf b h).2 (.inr (.inl ⟨k,hk,hnk,hb⟩))
 ·by_cases j3:j=i
  ·subst j3;rw[Ly0]at hb;exact hb
  ·rw[ub0 j3]at hb;rcases hV with h|h
   ·exact(hF.pv i b h).2.2.2.2 j j3 hb
   ·exact(hFf b h).2 (.inr (.inr ⟨j,hb⟩))
theorem Fix.waits {q:PR Y} {Γ:Geo} {X:Gh} {R:Rn} {w:World} {ft:Nat->Option (Y.L ⊕ Nat)} (hF:Fix Y fb q w0 Γ X R w Mn none ft) {i:Nat} {c:CB} (hc:R.cl[i]? =some c):(c.wt=true/\Y.nil i=false/\∃l,ft i=some (.inl l)/\Wt Y fb q w0 Γ X w i c l)\/(c.wt=false/\∃x,ft i=some (.inr x)/\(Y.nil i=true\/X.D1 (Γ.gi i)=none)):=by
 obtain⟨f,h1,h2⟩:=hF.cl i c hc (by simp);rcases h2 with⟨h3,h4,h5,h6⟩|⟨h3,h4⟩
 ·exact .inr ⟨h5,1,by rw[h1,h4],.inl h3⟩
 ·cases f with
  |inl l=>exact .inl ⟨h4.wt,h3,l,h1,h4⟩
  |inr x=>exact .inr ⟨h4.1,x,h1,.inr h4.2.2⟩
theorem Wt.X6 (hY:lt0 Y) {q:PR Y} {Γ:Geo} {X:Gh} {R:Rn} {w:World} {i:Nat} {c:CB} {l:Y.L} {F:Nat->Prop} {s:Y.S} {wn:World} {mn:Gm} {Fn:Nat->Prop} (hpv:∀b,Γ.pv i b↔b<wn.heap.size/\wn.heap[b]? ≠some nothing/\¬Fn b) (e8:∀b,Γ.pv i b->w.heap[b]? =wn.heap[b]?) (hos:wn.os=w0.os) (by0:wn.output=w0.output) (B2:wn.heap.size <=w.heap.size) (yh0:Y.le i mn Γ.gm)
  (hinv:Y.Inv s Γ.gm w F) (hFf:∀b,F b->¬Γ.pv i b) {u:World} (hu:∀b,Γ.pv i b\/F b->u.heap[b]? =w.heap[b]?) (dw1:w.heap.size <=u.heap.size) (dx1:u.os=w0.os) (Ye0:u.output=w0.output) (hs:Y.sAt q (gh u 0)=s) (hgm:gm u=Γ.gm) {cb:Nat} {top:List Frame}:(Y.cfg fb q w0 i cb top).j5 wn mn Fn u F:=by
 refine⟨Nat.le_trans B2 dw1,fun b hb h1 h2=>?_,?_,by rw[hgm];exact yh0,dx1.trans hos.symm,Ye0.trans by0.symm⟩
 ·have hp:=(hpv b).2 ⟨hb,h1,h2⟩;exact⟨(hu b (.inl hp)).trans (e8 b hp),fun z=>hFf b z hp⟩
 ·show Y.Inv (Y.sAt q (gh u 0)) (gm u) u F;rw[hs,hgm];exact hY.loc _ _ w u F hinv fun b hb=>hu b (.inr hb)
set_option maxRecDepth 20000 in
theorem Lz0 (hO:jm0 Y fb caps fv ba sa sn sc) {Post:Value->World->Prop} {n:Nat} {X:Gh} {R:Rn} {w:World} {i:Nat} {c:CB} (hJ:J2 Y fb sn sc Mn w0 rb0 n X R w) (hn:n<sn) (Ow0:(Y.rds (Y.pn sc n))[V9 (sc n) (Y.rds (Y.pn sc n)).length]? =some i) (hc:R.cl[i]? =some c) :
  ∃g z1 me1,g≠0/\X.D1 g=some ⟨c.rc,z1,me1⟩/\X.dn=0/\X.stay 0=[(⟨R.rb,7,none⟩,.chan (some R.yb))]/\(X.N7 R.yb/\∀i s2,i≠g->X.D1 i=some s2->s2.ch≠R.yb) /\
  ∀w' a nn me0,Rg R.fp w.heap.size w w' w0.heap.size {R with ea:=a,ec:=nn,evs:=R.evs ++ [(i,c.sp)],used:=R.used+1,cl:=R.cl.set i {c with N1:=c.N1+1,wt:=false}}->(∀X' R' u v,J2 Y fb sn sc Mn w0 rb0 (n+1) X' R' u->Fin prog Post X' 0 (Go.Conc.served me0 v) u)->Fin prog Post (X.pass 0 g (some ⟨R.yb,.i 0,me0⟩)) g (Go.Conc.served me1 (.bool true)) w':=by
 obtain⟨_,⟨Γ,hM⟩,hT,W9,ae0⟩:=hJ;have hF:=hM.fix;obtain⟨him,hri⟩:=Sys.ud0 Ow0;have hle:Y.Le (Y.pn sc (n+1)) (Y.pn sc sn):=ue0 (by omega);have Rp0:Y.Le (Y.pn sc n) (Y.pn sc sn):=ue0 (by omega);have hok:=Sys.vz0 (Y:=Y) sc n;have hlp:(Y.pn sc n).ft.length=Y.m:=Sys.T8 sc n;have wh0:Y.pn sc (n+1)=Y.y5 (Y.pn sc n) i:=by
  show Y.step (Y.pn sc n) (sc n)=_;unfold Sys.step;rw[Ow0]
 have Ox0:=(Hn0 (Y:=Y) (sc:=sc) (sn:=sn) (n:=n+1) (by omega)).length_le;generalize hp:Y.pn sc n=p at *;obtain⟨l,hl,hrl⟩:∃l,p.ft[i]? =some (.inl l)/\Y.rdy i l p.s=true:=by
  unfold Sys.dp0 at hri;cases hx:p.ft[i]? with
  |none=>rw[hx]at hri;cases hri
  |some f=>
   cases f with
   |inl l=>rw[hx]at hri;exact⟨l,rfl,hri⟩
   |inr x=>rw[hx]at hri;cases hri
 obtain⟨hwt,hnl,l',u5,hW⟩:c.wt=true/\Y.nil i=false/\∃l,p.ft[i]? =some (.inl l)/\Wt Y fb (Y.pn sc sn) w0 Γ X w i c l:=by
  rcases hF.waits hc with h|⟨_,x,h,_⟩
  ·exact h
  ·have h:p.ft[i]? =some (.inr x):=h;rw[hl]at h;cases h
 obtain rfl:l=l':=by rw[hl]at u5;exact Sum.inl.inj (Option.some.inj u5)
 have htn:Y.y5 p i={p with s:=(Y.go i l p.s).s,ft:=p.ft.set i (Y.go i l p.s).g8,evs:=p.evs ++ [(i,Y.stp i l)],N2:=p.N2++tell i (p.evs.length+1) (Y.go i l p.s).N2,outs:=p.outs ++ [Y.go i l p.s],who:=p.who ++ [some i],used:=p.used+1}:=by
  unfold Sys.y5;rw[hl]
 have hs:Y.sAt (Y.pn sc sn) p.outs.length=p.s:=Sys.Ls0 hok Rp0;have ho:Y.B4 (Y.pn sc sn) p.outs.length=Y.go i l p.s:=Sys.Hb0 (p':=Y.pn sc (n+1)) (by rw[wh0,htn]) hle;obtain⟨h1,R2,hsp,heb,me,cs,wn,mn,Fn,Rdo,u6,hme,hrf,hdf,hpv,e8,hos,by0,B2,yh0,hdo,hgo,km0⟩:=hW;have hgp:=(hF.ck i c hc hnl).bx0;have N8:(Γ.gi i==0)=false:=by simp;omega
 refine⟨Γ.gi i,.bool false,me,by omega,u6,hF.dn,hF.jk0,⟨hF.chy,fun j s2 hj hs2=>?_⟩,fun w' a nn me0 hg hk=>?_⟩
 ·by_cases hj0:j=0
  ·subst hj0;rw[hF.ls0 rfl]at hs2;cases hs2
  ·obtain⟨k,d,h2,h3,_,h4,_⟩:=hF.Q3 j s2 hj0 hs2;rw[h4];exact hF.ry k d h2 h3
 have u7:=(List.getElem?_eq_some_iff.1 hc).1;obtain⟨F,hinv,hFf⟩:=hM.inv;have P8:=hO.sys.vis _ _ _ _ hinv;have H2:∀b,b<w.heap.size->¬R.fp b->w'.heap[b]? =w.heap[b]?:=hg.md.block;have jt0:=(hF.Xv0 hO.sys.toLeOk hnl hc (s0:=⟨R.yb,.i 0,me0⟩)).y5 hO.sys.toLeOk (w':=w') (R':={R with ea:=a,ec:=nn,evs:=R.evs ++ [(i,c.sp)],used:=R.used+1,cl:=R.cl.set i {c with N1:=c.N1+1,wt:=false}}) hg.m rfl rfl rfl hg.fp (by simp) (fun j d hd=>by
  have H5:(R.cl.set i {c with N1:=c.N1+1,wt:=false})[j]? =some d:=hd;rw[List.getElem?_set]at H5;by_cases hj:i=j
  ·subst hj;rw[if_pos rfl,if_pos u7]at H5;obtain rfl:=Option.some.inj H5;exact⟨c,hc,rfl,rfl,fun z=>absurd rfl z⟩
  ·rw[if_neg hj]at H5;exact⟨d,H5,rfl,rfl,fun _=>⟨rfl,rfl⟩⟩) hg.md.size (fun b hb hf _=>.inl (H2 b hb hf)) (fun z=>by cases z)
 refine u9 _ _ fun nv=>?_;haveI:DecidablePred fun b=>Γ.pv i b\/F b:=fun _=>Classical.propDecidable _;refine kh0 (fun b=>Γ.pv i b\/F b) (bn0 (τ:=tpT w' p.outs.length 0 0 Γ.gm) (d:=w'.drawn) ?_);have Dk0:=rq0 (i:=i) (R1:={R with ea:=a,ec:=nn,evs:=R.evs ++ [(i,c.sp)],used:=R.used+1,cl:=R.cl.set i {c with N1:=c.N1+1,wt:=false}}) hF hg.fp (by simp) hFf (fun b hb=>(P8 b hb).1);have hpk:Y.N1 (Y.pn sc sn) i p.outs.length=c.N1+1:=by
  unfold Sys.N1;obtain⟨l',u5⟩:=hle.who;have hw:=hok.who;rw[<- u5,wh0,htn];rw[List.take_append_of_le_length (by simp[hw]),List.take_of_length_le (by simp[hw])];rw[hT.N1 i c hc];simp
 have k4:=w8.enter (q:=Y.pn sc sn) (i:=i) (t:=p.outs.length) (at_:=p.evs.length+1) (cb:=c.cb) (n0:=p.N2) (R0:={R with ea:=a,ec:=nn,evs:=R.evs ++ [(i,c.sp)],used:=R.used+1,cl:=R.cl.set i {c with N1:=c.N1+1,wt:=false}}) (τ:=tpT w' p.outs.length 0 0 Γ.gm) (d:=w'.drawn) hO.sys.toLeOk (fun b=>Γ.pv i b\/F b) jt0 Dk0 nv rfl (tpm _ _ _ _ _ _ _) (by show(R.evs ++ [(i,c.sp)]).length=_;rw[hT.evs];simp)
  ⟨{c with N1:=c.N1+1,wt:=false},by show(R.cl.set i _)[i]? =_;simp[u7],rfl,.inl ⟨rfl,R2,by
   show R.N2=_;rw[tp1,hT.N2];simp[tell],hpk.symm⟩⟩ ⟨R.na,R.nc,R.N2,rfl⟩ hnl ((H2 _ heb.lt (hF.side i u7 hnl).2.2.2).trans heb)
 have lu0:∀b,Γ.pv i b\/F b->b<w.heap.size/\¬R.fp b:=fun b hb=>by
  rcases hb with h|h
  ·exact⟨(hF.pv i b h).1,(hF.pv i b h).2.1⟩
  ·exact⟨(P8 b h).1,(hFf b h).1⟩
 have Oy0:(Y.cfg fb (Y.pn sc sn) w0 i c.cb (Γ.top i)).Goes wn mn Fn l (Yc.W2 (E3 (fun b=>Γ.pv i b\/F b) w') (tpT w' p.outs.length 0 0 Γ.gm) w'.drawn) F:=by
  refine⟨Wt.X6 (u:=Yc.W2 (E3 (fun b=>Γ.pv i b\/F b) w') (tpT w' p.outs.length 0 0 Γ.gm) w'.drawn) (q:=Y.pn sc sn) (X:=X) (R:=R) (c:=c) (l:=l) hO.sys hpv e8 hos by0 B2 yh0 hinv (fun b hb z=>(hFf b hb).2 (.inr (.inr ⟨i,z⟩))) (fun b hb=>?_) ?_ (hg.md.os.trans (hF.os rfl)) (hg.md.output.trans (hF.output rfl)) hs (tpm _ _ _ _ _ _ _),rfl,rfl,?_,?_,⟨show p.outs.length <=300000 by have h1:=(Sys.yf0 (Y:=Y) sc n).2;rw[hp]at h1;have h2:=hO.m1;have h3:=hO.sn1;omega,p,.inr ⟨sc,n,hp.symm⟩,rfl,hs.symm,hl⟩⟩
  ·show(E3 (fun b=>Γ.pv i b\/F b) w').heap[b]? =_;rw[E9 (V:=fun b=>Γ.pv i b\/F b) w' hb,H2 b (lu0 b hb).1 (lu0 b hb).2]
  ·show w.heap.size <=(E3 (fun b=>Γ.pv i b\/F b) w').heap.size;rw[p8];exact hg.md.size
  ·show Y.B4 (Y.pn sc sn) p.outs.length=Y.go i l (Y.sAt (Y.pn sc sn) p.outs.length);rw[hs,ho]
  ·show Y.rdy i l (Y.sAt (Y.pn sc sn) p.outs.length)=true;rw[hs];exact hrl
 refine Lx0 N8 hme (hdo _ F Oy0) (fun cs2 u2 he ht hz=>(k4.evo hO.sys.toLeOk he ht).number hz) fun u2 fr he ht hr hfn hlv=>?_;refine ff0 (z0:=.i 0) (me0:=me0) (st:=false) (cb:=c.cb) (Γ:=Γ.put i fun _=>False) (Mn:=Mn) (ft:=fun j=>p.ft[j]?) (t:=p.outs.length) (at_:=p.evs.length+1) (n0:=p.N2) (R0:={R with ea:=a,ec:=nn,evs:=R.evs ++ [(i,c.sp)],used:=R.used+1,cl:=R.cl.set i {c with N1:=c.N1+1,wt:=false}}) hO.sys O8 ?_ (fun Γ' X' R' w2 hA=>?_) (hgo _ F u2 Oy0 hr ht fr hfn hlv) _ _ (k4.evo hO.sys.toLeOk he ht) (fun d hd=>?_)
 ·rw[wh0,htn]at Ox0;have:=hO.N2;rw[ho];simp[tell]at Ox0;omega
 ·rcases hA with⟨_,hM',na,nc,c0,c',hc0,hcp,hR⟩|⟨z,_⟩
  ·have hc0:(R.cl.set i {c with N1:=c.N1+1,wt:=false})[i]? =some c0:=hc0;have Rq0:c0.N1=c.N1+1:=by simp[u7]at hc0;rw[<- hc0]
   rw[ho,Au0 (by omega)]at hM';refine hk X' R' w2 _ ?_;subst hR;refine⟨by omega,⟨Γ',by rw[wh0,htn];exact hM'⟩,?_,W9,ae0⟩;rw[wh0,htn];refine⟨hT.rb,?_,?_,?_,?_,fun j d hd=>?_,fun j hj=>?_⟩
   ·show R.evs ++ [(i,c.sp)]=p.evs ++ [(i,Y.stp i l)];rw[hT.evs,hsp]
   ·show p.N2++tell i (R.evs ++ [(i,c.sp)]).length (Y.B4 (Y.pn sc sn) p.outs.length).N2=p.N2++tell i (p.evs.length+1) (Y.go i l p.s).N2;rw[hT.evs,ho];simp
   ·show R.used+1=p.used+1;rw[hT.used]
   ·show((R.cl.set i {c with N1:=c.N1+1,wt:=false}).set i c').length=(p.ft.set i _).length;simp[hT.len]
   ·have H5:((R.cl.set i {c with N1:=c.N1+1,wt:=false}).set i c')[j]? =some d:=hd;show d.N1=(p.who ++ [some i]).count (some j);rw[List.getElem?_set]at H5;by_cases j3:i=j
    ·subst j3;rw[if_pos rfl,if_pos (by simp[u7])]at H5;obtain rfl:=Option.some.inj H5;rw[hcp,Rq0,hT.N1 i c hc];simp
    ·rw[if_neg j3,List.getElem?_set_ne j3]at H5;rw[hT.N1 j d H5];simp[j3]
   ·show(im0 R.ends i (Y.B4 (Y.pn sc sn) p.outs.length).g8)[j]? =some (as0 ((p.ft.set i (Y.go i l p.s).g8)[j]?));have h0:=io0 (Y:=Y) (f:=(Y.go i l p.s).g8) (g:=fun j=>p.ft[j]?) (i:=i) hT.ends (by rw[hF.mem.en0,hF.m]) (by show as0 p.ft[i]? =0;rw[hl];rfl) j hj;rw[ho,h0];exact congrArg (fun f:Nat->Option (Y.L ⊕ Nat)=>some (as0 (f j))) (Au0 (by omega) (Y.go i l p.s).g8)
  ·cases z
 ·have H5:(R.cl.set i {c with N1:=c.N1+1,wt:=false})[i]? =some d:=hd;simp[u7]at H5;rw[<- H5];exact R2
set_option maxRecDepth 20000 in
theorem Ma0 (hO:jm0 Y fb caps fv ba sa sn sc) {Post:Value->World->Prop} {X:Gh} {R:Rn} {w:World} {i:Nat} {c:CB} (hJ:JE Y fb sn sc Mn w0 rb0 i X R w) (hc:R.cl[i]? =some c) (hwt:c.wt=true) :
  ∃g z1 me1,g≠0/\X.D1 g=some ⟨c.rc,z1,me1⟩/\X.dn=0/\X.stay 0=[(⟨R.rb,7,none⟩,.chan (some R.yb))]/\(X.N7 R.yb/\∀i s2,i≠g->X.D1 i=some s2->s2.ch≠R.yb) /\
  ∀w' me0,Rg R.fp w.heap.size w w' w0.heap.size {R with k8:=R.k8.set i c.sp}->(∀X' R' u v,JE Y fb sn sc Mn w0 rb0 (i+1) X' R' u/\R'.ca=R.ca/\R'.cc=R.cc->Fin prog Post X' 0 (Go.Conc.served me0 v) u)->Fin prog Post (X.pass 0 g (some ⟨R.yb,.i 0,me0⟩)) g (Go.Conc.served me1 (.bool false)) w':=by
 obtain⟨_,⟨Γ,hM⟩,hT,W9,ae0⟩:=hJ;have hF:=hM.fix;have u7:=(List.getElem?_eq_some_iff.1 hc).1;have hlp:(Y.pn sc sn).ft.length=Y.m:=Sys.T8 sc sn;have him:i<Y.m:=by have:=hT.len;omega
 have hok:=Sys.vz0 (Y:=Y) sc sn;have hs:Y.sAt (Y.pn sc sn) (Y.pn sc sn).outs.length=(Y.pn sc sn).s:=Sys.Ls0 hok (Sys.Le.refl Y _);obtain⟨hnl,l,hl,hW⟩:Y.nil i=false/\∃l,(Y.pn sc sn).ft[i]? =some (.inl l)/\Wt Y fb (Y.pn sc sn) w0 Γ X w i c l:=by
  rcases hF.waits hc with⟨_,h1,l,h2,h3⟩|⟨h,_⟩
  ·exact⟨h1,l,by simpa using h2,h3⟩
  ·rw[hwt]at h;cases h
 generalize hq:Y.pn sc sn=q at *;obtain⟨h1,R2,hsp,heb,me,cs,wn,mn,Fn,Rdo,u6,hme,hrf,hdf,hpv,e8,hos,by0,B2,yh0,hdo,hgo,km0⟩:=hW;have hgp:=(hF.ck i c hc hnl).bx0;have N8:(Γ.gi i==0)=false:=by simp;omega
 refine⟨Γ.gi i,.bool false,me,by omega,u6,hF.dn,hF.jk0,⟨hF.chy,fun j s2 hj hs2=>?_⟩,fun w' me0 hg hk=>?_⟩
 ·by_cases hj0:j=0
  ·subst hj0;rw[hF.ls0 rfl]at hs2;cases hs2
  ·obtain⟨k,d,h2,h3,_,h4,_⟩:=hF.Q3 j s2 hj0 hs2;rw[h4];exact hF.ry k d h2 h3
 obtain⟨F,hinv,hFf⟩:=hM.inv;have P8:=hO.sys.vis _ _ _ _ hinv;refine hme.no _ (by have:=@D4 prog Post (X.pass 0 (Γ.gi i) (some ⟨R.yb,.i 0,me0⟩)) (Γ.gi i);rw[N8]at this;exact this) w' R.fp w.heap.size w w0.heap.size {R with k8:=R.k8.set i c.sp} i c hg hc rfl fun u2 fr ch hg2 hfn R6 hlv=>?_;have H2:∀b,b<w.heap.size->¬R.fp b->u2.heap[b]? =w.heap[b]?:=hg2.md.block;have jt0:=(hF.Xv0 hO.sys.toLeOk hnl hc (s0:=⟨R.yb,.i 0,me0⟩)).y5 hO.sys.toLeOk (w':=u2) (R':={R with k8:=R.k8.set i c.sp,cl:=R.cl.set i {c with st:=true}}) hg2.m rfl rfl rfl hg2.fp (by simp) (fun j d hd=>by
  have H5:(R.cl.set i {c with st:=true})[j]? =some d:=hd;rw[List.getElem?_set]at H5;by_cases hj:i=j
  ·subst hj;rw[if_pos rfl,if_pos u7]at H5;obtain rfl:=Option.some.inj H5;exact⟨c,hc,rfl,rfl,fun z=>absurd rfl z⟩
  ·rw[if_neg hj]at H5;exact⟨d,H5,rfl,rfl,fun _=>⟨rfl,rfl⟩⟩) hg2.md.size (fun b hb hf _=>.inl (H2 b hb hf)) (fun z=>by cases z)
 refine u9 _ _ fun nv=>?_;haveI:DecidablePred fun b=>Γ.pv i b\/F b:=fun _=>Classical.propDecidable _;refine kh0 (fun b=>Γ.pv i b\/F b) (bn0 (τ:=tpT u2 q.outs.length 0 1 Γ.gm) (d:=u2.drawn) ?_);have Dk0:=rq0 (i:=i) (R1:={R with k8:=R.k8.set i c.sp,cl:=R.cl.set i {c with st:=true}}) hF hg2.fp (by simp) hFf (fun b hb=>(P8 b hb).1);have k4:=w8.enter (q:=q) (i:=i) (t:=q.outs.length) (at_:=R.evs.length) (cb:=c.cb) (n0:=q.N2) (R0:={R with k8:=R.k8.set i c.sp,cl:=R.cl.set i {c with st:=true}}) (τ:=tpT u2 q.outs.length 0 1 Γ.gm) (d:=u2.drawn) hO.sys.toLeOk (fun b=>Γ.pv i b\/F b) jt0 Dk0 nv rfl (tpm _ _ _ _ _ _ _) rfl
  ⟨{c with st:=true},by show(R.cl.set i _)[i]? =_;simp[u7],rfl,.inr ⟨rfl,rfl,hT.N2⟩⟩ ⟨R.na,R.nc,R.N2,rfl⟩ hnl ((H2 _ heb.lt (hF.side i u7 hnl).2.2.2).trans heb)
 have lu0:∀b,Γ.pv i b\/F b->b<w.heap.size/\¬R.fp b:=fun b hb=>by
  rcases hb with h|h
  ·exact⟨(hF.pv i b h).1,(hF.pv i b h).2.1⟩
  ·exact⟨(P8 b h).1,(hFf b h).1⟩
 have Rr0:(Y.cfg fb q w0 i c.cb (Γ.top i)).j5 wn mn Fn (Yc.W2 (E3 (fun b=>Γ.pv i b\/F b) u2) (tpT u2 q.outs.length 0 1 Γ.gm) u2.drawn) F:=by
  refine Wt.X6 (u:=Yc.W2 (E3 (fun b=>Γ.pv i b\/F b) u2) (tpT u2 q.outs.length 0 1 Γ.gm) u2.drawn) (q:=q) (X:=X) (R:=R) (c:=c) (l:=l) hO.sys hpv e8 hos by0 B2 yh0 hinv (fun b hb z=>(hFf b hb).2 (.inr (.inr ⟨i,z⟩))) (fun b hb=>?_) ?_ (hg2.md.os.trans (hF.os rfl)) (hg2.md.output.trans (hF.output rfl)) hs (tpm _ _ _ _ _ _ _)
  ·show(E3 (fun b=>Γ.pv i b\/F b) u2).heap[b]? =_;rw[E9 (V:=fun b=>Γ.pv i b\/F b) u2 hb,H2 b (lu0 b hb).1 (lu0 b hb).2]
  ·show w.heap.size <=(E3 (fun b=>Γ.pv i b\/F b) u2).heap.size;rw[p8];exact hg2.md.size
 refine ff0 (z0:=.i 0) (me0:=me0) (st:=true) (cb:=c.cb) (Γ:=Γ.put i fun _=>False) (Mn:=Mn) (ft:=fun j=>if j<i then B8 (q.ft[j]?) else q.ft[j]?) (t:=q.outs.length) (at_:=R.evs.length) (n0:=q.N2) (R0:={R with k8:=R.k8.set i c.sp,cl:=R.cl.set i {c with st:=true}}) hO.sys O8 ?_ (fun Γ' X' R' w2 hA=>?_) (km0 _ F Rr0 rfl fr ch hfn R6 hlv) _ _ k4 (fun d hd=>?_)
 ·have h2:=hO.N2;rw[hq]at h2;have h3:Y.B4 q q.outs.length=Y.o0:=by unfold Sys.B4;rw[List.getElem?_eq_none (Nat.le_refl _)];rfl
  rw[h3];show q.N2.length+0 <=_;omega
 ·rcases hA with⟨z,_⟩|⟨_,hM',na,nc,c0,c',hc0,hcp,hR⟩
  ·cases z
  ·have hc0:(R.cl.set i {c with st:=true})[i]? =some c0:=hc0;have Rq0:c0.N1=c.N1:=by simp[u7]at hc0;rw[<- hc0]
   have Rs0:(fun j=>if j=i then some (.inr 0) else if j<i then B8 (q.ft[j]?) else q.ft[j]?)=fun j=>if j<i+1 then B8 (q.ft[j]?) else q.ft[j]?:=by
    funext j;by_cases j3:j=i
    ·subst j3;rw[if_pos rfl,if_pos (by omega),hl];rfl
    ·rw[if_neg j3];by_cases h3:j<i
     ·rw[if_pos h3,if_pos (by omega)]
     ·rw[if_neg h3,if_neg (by omega)]
   have hM2:Main Y fb q w0 Γ' X' R' w2 Mn (fun j=>if j=i then some (.inr 0) else if j<i then B8 (q.ft[j]?) else q.ft[j]?) (Y.sAt q q.outs.length):=hM';rw[Rs0,hs]at hM2;refine hk X' R' w2 _ ?_;subst hR;refine⟨⟨by omega,⟨Γ',by rw[hq];exact hM2⟩,?_,fun j hj=>?_,by rw[hq];exact ae0⟩,rfl,rfl⟩
   ·rw[hq];refine⟨hT.rb,hT.evs,rfl,hT.used,?_,fun j d hd=>?_,fun j hj=>?_⟩
    ·show((R.cl.set i {c with st:=true}).set i c').length=_;simp[hT.len]
    ·have H5:((R.cl.set i {c with st:=true}).set i c')[j]? =some d:=hd;rw[List.getElem?_set]at H5;by_cases j3:i=j
     ·subst j3;rw[if_pos rfl,if_pos (by simp[u7])]at H5;obtain rfl:=Option.some.inj H5;rw[hcp,Rq0];exact hT.N1 i c hc
     ·rw[if_neg j3,List.getElem?_set_ne j3]at H5;exact hT.N1 j d H5
    ·show(R.ends.set i 0)[j]? =_;have hel:R.ends.length=Y.m:=by rw[hF.mem.en0,hF.m]
     by_cases j3:i=j
     ·subst j3;rw[hl];simp[hel,him];rfl
     ·rw[List.getElem?_set_ne j3];exact hT.ends j hj
   ·rw[hq];show(R.k8.set i c.sp)[j]? =_;have hwl:R.k8.length=Y.m:=by rw[hF.mem.jx0,hF.m]
    by_cases j3:i=j
    ·subst j3;rw[if_pos (by omega),hl];simp[hwl,him];exact hsp
    ·rw[List.getElem?_set_ne j3,W9 j hj];by_cases h3:j<i
     ·rw[if_pos h3,if_pos (by omega)]
     ·rw[if_neg h3,if_neg (by omega)]
 ·have H5:(R.cl.set i {c with st:=true})[i]? =some d:=hd;simp[u7]at H5;rw[<- H5]
end
end
end Go.Vy.Sc
end
section
namespace Go.Vy
open Go Go.Conc Go.Yc Go.RowKit
section
variable {P:Program}{main:Bool}{f:FuncId}{args:Array Value}{R:Ending->World->Prop}
theorem lv0 {fr:Frame} {w:World} {e:Ending} {τ:Tape} {d:Nat} (h:Leaves P fr w e):Leaves P fr (Yc.W2 w τ d) e:=by
 cases e with
 |returned v=>exact h
 |panicked ch=>exact h
 |outgrown=>exact h
theorem Calls.W2 {u:World} {τ:Tape} {d:Nat} (h:@Calls P (M1 P main) f args (Yc.W2 u τ d) R):@Calls P (M1 P main) f args u (fun e w'=>∃w2 d2,w'=Yc.W2 w2 u.tape d2/\R e w2):=by
 intro Z hZ cs hk;obtain⟨hc,hi⟩:=hZ;have E6:Cl P main (fun g x=>∀d0,Z g (Yc.W2 x u.tape d0)):=⟨fun g x hr hs d0=>by
  refine hc.own g _ hr fun τ' d'=>?_;obtain⟨g',u',d2,hF,hz⟩:=hs τ' d';exact⟨g',u',0,hF,hz 0⟩⟩
 have:=h (fun g x=>∀d0,Z g (Yc.W2 x u.tape d0)) ⟨E6,fun g x hz d0=>hi g _ fun hv=>hz hv d0⟩ cs (fun e w' fr he hf hl d0=>hk e _ fr ⟨w',d0,rfl,he⟩ hf (lv0 hl)) u.drawn;exact this
end
end Go.Vy
namespace Go.Vy.Sc
open Go Go.Conc Go.Yc Go.RowKit Go.Proofs Go.Proofs.YtnifpkopeheodaaGreat Tryz
open Go.Vc Go.Wg
attribute [local irreducible] KK
structure Lone (X:Gh) (w:World):Prop where
 D1:∀i,X.D1 i=none
 cap:X.cap=0
 pend:X.pend=0
 dn:X.dn=0
 under:X.c9 w.heap.size
 O4:∀b,w.heap.size <=b->X.O4 b= .all
 il0:0<X.n
theorem Lone.mono {X:Gh} {w w':World} (h:Lone X w) (hs:w.heap.size <=w'.heap.size):Lone X w':=⟨h.D1,h.cap,h.pend,h.dn,h.under.mono hs,fun b hb=>h.O4 b (Nat.le_trans hs hb),h.il0⟩
section
variable {Y:Sys}{fb:Nat->FuncId}{caps:Nat->Array Value}{fv:Nat->Value}{ba sa:Option Addr}{sn:Nat}{sc:Nat->Int}{Mn:Nat->Option Obj}{w0:World}{rb0:Nat}
theorem Av0 {q:PR Y} {Γ:Geo} {X:Gh} {R:Rn} {w:World} {p:PR Y} (hF:Fix Y fb q w0 Γ X R w Mn none (fun j=>p.ft[j]?)) (hlen:R.cl.length=Y.m):rdl R.cl (Y.dp0 p) Y.m=Y.rds p:=by
 unfold rdl Sys.rds;apply List.filter_congr;intro i hi;have hi:i<Y.m:=by simpa using hi
 obtain⟨c,hc⟩:∃c,R.cl[i]? =some c:=⟨_,List.getElem?_eq_getElem (by omega)⟩
 rw[hc];rcases hF.waits hc with⟨h1,_⟩|⟨h1,x,h2,_⟩
 ·simp[h1]
 ·have h2:p.ft[i]? =some (.inr x):=h2;simp[h1,Sys.dp0,h2]
theorem Ho0 {q:PR Y} {Γ:Geo} {X:Gh} {R:Rn} {w:World} {p:PR Y} (hF:Fix Y fb q w0 Γ X R w Mn none (fun j=>p.ft[j]?)) (hlen:R.cl.length=p.ft.length):R.cl.any (·.wt)=p.ft.any (·.isLeft):=by
 rw[Bool.eq_iff_iff,List.any_eq_true,List.any_eq_true];constructor
 ·rintro⟨c,hc,hw⟩;obtain⟨i,hi⟩:=List.mem_iff_getElem?.1 hc;rcases hF.waits hi with⟨h1,_,l,h2,_⟩|⟨h1,_⟩
  ·exact⟨.inl l,List.mem_iff_getElem?.2 ⟨i,h2⟩,rfl⟩
  ·rw[hw]at h1;cases h1
 ·rintro⟨f,hf,hw⟩;obtain⟨i,hi⟩:=List.mem_iff_getElem?.1 hf;have u7:=(List.getElem?_eq_some_iff.1 hi).1;obtain⟨c,hc⟩:∃c,R.cl[i]? =some c:=⟨_,List.getElem?_eq_getElem (by omega)⟩
  rcases hF.waits hc with⟨h1,_⟩|⟨h1,x,h2,_⟩
  ·exact⟨c,List.mem_iff_getElem?.2 ⟨i,hc⟩,h1⟩
  ·have h2:p.ft[i]? =some (.inr x):=h2;rw[hi]at h2;cases h2;cases hw
theorem Main.y5 {q:PR Y} {Γ:Geo} {X:Gh} {R R':Rn} {w w':World} {ft:Nat->Option (Y.L ⊕ Nat)} {s:Y.S} (hY:lt0 Y) (h:Main Y fb q w0 Γ X R w Mn ft s) (hg:Rg R.fp w.heap.size w w' w0.heap.size R') (B9:R'.rb=R.rb) (hyb:R'.yb=R.yb) (hm:R'.m=R.m) (E6:R'.cl=R.cl) (he:R'.ends=R.ends):Main Y fb q w0 Γ X R' w' Mn ft s:=by
 obtain⟨F,hinv,hFf⟩:=h.inv;have P8:=hY.vis _ _ _ _ hinv;refine⟨h.fix.y5 hY.toLeOk hg.m B9 hyb hm hg.fp (by rw[E6]) (fun j c hc=>⟨c,by rw[<- E6];exact hc,rfl,rfl,fun _=>⟨rfl,by rw[he]⟩⟩) hg.md.size (fun b hb hf _=>.inl (hg.md.block b hb hf)) (fun _=>⟨hg.md.os,hg.md.output⟩),F,hY.loc _ _ w w' F hinv fun b hb=>hg.md.block b (P8 b hb).1 (hFf b hb).1,fun b hb=>⟨fun z=>(hg.fp b z).elim (hFf b hb).1 (Nat.not_le_of_lt (P8 b hb).1),fun z=>(hFf b hb).2 ?_⟩⟩;rcases z with z|⟨k,hk,z⟩|z
 ·exact .inl z
 ·exact .inr (.inl ⟨k,by rw[<- E6];exact hk,z⟩)
 ·exact .inr (.inr z)
theorem Rt0 (hO:jm0 Y fb caps fv ba sa sn sc) {n:Nat} {X:Gh} {R:Rn} {w:World} (hJ:J2 Y fb sn sc Mn w0 rb0 n X R w) {i:Nat} {c:CB} (hc:R.cl[i]? =some c) (hwt:c.wt=true):@tu0 (M1 prog true) w c.rf (Y.dp0 (Y.pn sc n) i):=by
 obtain⟨hn,⟨Γ,hM⟩,hT,W9,ae0⟩:=hJ;have hF:=hM.fix;have Rp0:Y.Le (Y.pn sc n) (Y.pn sc sn):=ue0 hn;have hok:=Sys.vz0 (Y:=Y) sc n;generalize hp:Y.pn sc n=p at *;obtain⟨hnl,l,hl,hW⟩:Y.nil i=false/\∃l,p.ft[i]? =some (.inl l)/\Wt Y fb (Y.pn sc sn) w0 Γ X w i c l:=by
  rcases hF.waits hc with⟨_,h1,l,h2,h3⟩|⟨h,_⟩
  ·exact⟨h1,l,h2,h3⟩
  ·rw[hwt]at h;cases h
 have hs:Y.sAt (Y.pn sc sn) p.outs.length=p.s:=Sys.Ls0 hok Rp0;have hr:Y.dp0 p i=Y.rdy i l p.s:=by unfold Sys.dp0;rw[hl]
 obtain⟨h1,R2,hsp,heb,me,cs,wn,mn,Fn,Rdo,u6,hme,hrf,hdf,hpv,e8,hos,by0,B2,yh0,hdo,hgo,km0⟩:=hW;obtain⟨F,hinv,hFf⟩:=hM.inv;have P8:=hO.sys.vis _ _ _ _ hinv;have lu0:∀b,Γ.pv i b\/F b->b<w.heap.size:=fun b hb=>by
  rcases hb with h|h
  ·exact(hF.pv i b h).1
  ·exact(P8 b h).1
 rcases hrf with⟨hrf,bk0⟩|⟨f,cps,⟨hrf,fn,h2,h3,h4⟩,X4⟩
 ·exact .inl ⟨hrf,by rw[hr];exact bk0 _⟩
 ·refine .inr ⟨f,fn,cps,hrf,h2,h3,h4,fun u hb=>?_⟩;haveI:DecidablePred fun b=>Γ.pv i b\/F b:=fun _=>Classical.propDecidable _;have Rr0:(Y.cfg fb (Y.pn sc sn) w0 i c.cb (Γ.top i)).j5 wn mn Fn (Yc.W2 (E3 (fun b=>Γ.pv i b\/F b) u) (tpT u p.outs.length 0 0 Γ.gm) u.drawn) F:=by
   refine Wt.X6 (u:=Yc.W2 (E3 (fun b=>Γ.pv i b\/F b) u) (tpT u p.outs.length 0 0 Γ.gm) u.drawn) (q:=Y.pn sc sn) (X:=X) (R:=R) (c:=c) (l:=l) hO.sys hpv e8 hos by0 B2 yh0 hinv (fun b hb z=>(hFf b hb).2 (.inr (.inr ⟨i,z⟩))) (fun b P7=>?_) ?_ (hb.os.trans (hF.os rfl)) (hb.output.trans (hF.output rfl)) hs (tpm _ _ _ _ _ _ _)
   ·show(E3 (fun b=>Γ.pv i b\/F b) u).heap[b]? =_;rw[E9 (V:=fun b=>Γ.pv i b\/F b) u P7,hb.block b (lu0 b P7)]
   ·show w.heap.size <=(E3 (fun b=>Γ.pv i b\/F b) u).heap.size;rw[p8];exact hb.size
  have h5:=Calls.seen (fun b=>Γ.pv i b\/F b) (Calls.W2 (X4 _ F Rr0));refine @Calls.mono _ (M1 prog true) f cps u _ _ h5 fun e w' he=>?_;obtain⟨u',rfl,hH,w2,d2,rfl,he⟩:=he;cases e with
  |panicked ch=>exact he.elim
  |outgrown=>exact he.elim
  |returned v=>
   obtain⟨hv,di0⟩:=he;refine⟨?_,⟨di0.os,rfl,di0.output,?_,fun b P7=>?_⟩⟩
   ·rw[hv,hr];show Value.bool (Y.rdy i l (Y.sAt (Y.pn sc sn) p.outs.length))=_;rw[hs]
   ·rw[y4];have:=di0.size;have h6:(E3 (fun b=>Γ.pv i b\/F b) u).heap.size <=w2.heap.size:=this;rw[p8]at h6;exact h6
   ·have h6:b<(E3 (fun b=>Γ.pv i b\/F b) u).heap.size:=by rw[p8];exact P7
    have h7:=di0.block b h6;by_cases hV:Γ.pv i b\/F b
    ·rw[o5 (Yc.W2 w2 _ d2) (by simp[Y7,hV])];show w2.heap[b]? =_;refine h7.trans ?_;show(E3 (fun b=>Γ.pv i b\/F b) u).heap[b]? =_;rw[E9 (V:=fun b=>Γ.pv i b\/F b) u hV]
    ·have h8:Y7 (fun b=>Γ.pv i b\/F b) u b=some u.heap[b]:=by
      simp only[Y7,hV,if_false];exact Array.getElem?_eq_getElem P7
     rw[L8 h8 (by
      show b<w2.heap.size;have:=di0.size;have h9:(E3 (fun b=>Γ.pv i b\/F b) u).heap.size <=w2.heap.size:=this;omega),Array.getElem?_eq_getElem P7]
theorem ring (hO:jm0 Y fb caps fv ba sa sn sc) {tb:Nat} {Post:Value->World->Prop} (htb:Mn tb=some (.cells #[.slice none 0 0,.slice none 0 0,.slice none 0 0,.slice none 0 0,.bool false,.i 0] 30 (0,0)))
  (hbc:∀w:World,(∀b,Mn b≠none->w.heap[b]? =Mn b)->∀j,j<Y.m->w.cell? ⟨ab ba,ao ba+j*1,none⟩=some (fv j)) (hsc:∀w:World,(∃s m F,Y.Inv s m w F)->(∀b,Mn b≠none->w.heap[b]? =Mn b)->∀j,j<sn->w.cell? ⟨ab sa,ao sa+j*1,none⟩=some (.i (sc j))) :
  Gt0 rb0 Y.m sn tb ba sa fv sc w0.heap.size Post (JB Y fb sn sc Mn w0 rb0) (J2 Y fb sn sc Mn w0 rb0) (JE Y fb sn sc Mn w0 rb0) (fun n=>Y.dp0 (Y.pn sc n)):=by
 have hm1:=hO.m1;have hsn:=hO.sn1;refine⟨fun cs cy0=>⟨hO.bsl,fun i hi=>?_,fun i X R w hJ=>?_,fun i X R w w' a n cb rc hi hJ hf hcb hrc hg=>?_,fun i X R w w' a n cb rc hi hJ hf hcb hrc B3 Z5 hg=>?_,cy0⟩,fun X R w hJ=>?_,hO.ssl,fun n X R w hJ=>?_,fun n X R w w' hJ hb=>?_,fun n X R w hJ i c hc hwt=>Rt0 hO hJ hc hwt,fun n X R w i c hJ hn hp hc=>?_,fun n X R w w' b hJ hn hb hg=>?_,fun ca cc cs cy0=>⟨fun i X R w hJ=>?_,fun i X R w c hJ hc hwt=>?_,fun i X R w c hJ hc hwt=>?_,fun X R w hJ=>?_⟩,fun X R w hJ=>?_⟩
 ·rcases hO.fn i hi with h|⟨_,h,fn,h1,h2,h3⟩
  ·exact .inl h.2
  ·exact .inr ⟨fb i,fn,caps i,h,h1,h2,h3⟩
 ·obtain⟨_,⟨Γ,hM⟩,hT,W9,ae0⟩:=hJ;exact⟨hM.fix.mem,hT.rb,hT.len.trans (Sys.z5 i),hM.fix.m,hM.fix.size,hM.fix.under,hbc w hM.get⟩
 ·obtain⟨_,⟨Γ,hM⟩,hT,W9,ae0⟩:=hJ;have hnl:Y.nil i=true:=by
   rcases hO.fn i hi with h|h
   ·exact h.1
   ·rw[hf]at h;exact absurd h.2.1 (by simp)
  have hlen:R.cl.length=i:=hT.len.trans (Sys.z5 i);have hbg:Y.M4 (i+1)={Y.M4 i with ft:=(Y.M4 i).ft ++ [.inr 1]}:=by
   show Y.bgn (Y.M4 i)=_;unfold Sys.bgn;rw[Sys.z5 i,hnl];rfl
  have K9:=Sys.z5 (Y:=Y) i;generalize hp:Y.M4 i=p at *;have jt0:=hM.fix.Rm0 hO.sys.toLeOk hnl hlen (by rw[hM.fix.m];exact hi) hcb hg (by show p.ft[i]? =none;rw[List.getElem?_eq_none (by omega)]);rw[ki0 K9]at jt0;obtain⟨F,hinv,hFf⟩:=hM.inv;have P8:=hO.sys.vis _ _ _ _ hinv;have hM':Main Y fb (Y.pn sc sn) w0 Γ (X.lower cb) {R with ca:=a,cc:=n,cl:=R.cl ++ [Z3 cb rc],ends:=R.ends.set i 1} w' Mn (fun j=>(p.ft ++ [.inr 1])[j]?) p.s:=by
   refine⟨jt0,F,hO.sys.loc _ _ w w' F hinv fun b hb=>hg.md.block b (P8 b hb).1 (hFf b hb).1,fun b hb=>⟨fun z=>(hg.fp b z).elim (hFf b hb).1 (Nat.not_le_of_lt (P8 b hb).1),fun z=>(hFf b hb).2 ?_⟩⟩;rcases z with z|⟨k,hk,hnk,z⟩|z
   ·exact .inl z
   ·refine .inr (.inl ⟨k,?_,hnk,z⟩);have hk:k<(R.cl ++ [Z3 cb rc]).length:=hk;rw[List.length_append,List.length_singleton]at hk;rcases Nat.lt_or_ge k R.cl.length with y|y
    ·exact y
    ·have:k=i:=by omega
     rw[this,hnl]at hnk;cases hnk
   ·exact .inr (.inr z)
  refine⟨by omega,⟨Γ,by rw[hbg];exact hM'⟩,?_,W9,ae0⟩
  ·rw[hbg];refine⟨hT.rb,hT.evs,hT.N2,hT.used,by simp[hT.len],fun j d hd=>?_,fun j hj=>?_⟩
   ·rcases bz0 hd with z|⟨z,rfl⟩
    ·exact hT.N1 j d z
    ·show 0=p.who.count (some j);rw[<- hp];exact(Sys.dq0 i j).symm
   ·have h0:=io0 (Y:=Y) (f:=.inr 1) (g:=fun j=>p.ft[j]?) (i:=i) hT.ends (by rw[hM.fix.mem.en0,hM.fix.m]) (by show as0 p.ft[i]? =0;rw[List.getElem?_eq_none (by omega)];rfl) j hj;exact h0.trans (congrArg (fun f:Nat->Option (Y.L ⊕ Nat)=>some (as0 (f j))) (ki0 K9 (.inr 1)))
 ·have hF:∃Γ,Fix Y fb (Y.pn sc sn) w0 Γ X R w Mn none (fun j=>(Y.M4 i).ft[j]?):=by obtain⟨_,⟨Γ,hM⟩,_⟩:=hJ;exact⟨Γ,hM.fix⟩
  obtain⟨Γ,hF⟩:=hF;have hT:Tie Y rb0 (Y.M4 i) R:=hJ.2.2.1;have hlen:R.cl.length=i:=hT.len.trans (Sys.z5 i);refine⟨by rw[<- hT.rb];exact hF.O2,hF.pend,by have:=hF.cap;omega,hF.dn,hF.jk0,⟨hF.chy,fun j s2 hs2=>?_⟩,fun me0 hk=>Ro0 hO hi hJ hf hcb hrc B3 Z5 hg hk⟩;by_cases hj0:j=0
  ·subst hj0;rw[hF.ls0 rfl]at hs2;cases hs2
  ·obtain⟨k,d,h2,h3,_,h4,_⟩:=hF.Q3 j s2 hj0 hs2;rw[h4];exact hF.ry k d h2 h3
 ·obtain⟨_,hM,hT,W9,ae0⟩:=hJ;exact⟨Nat.zero_le _,hM,hT,W9,ae0⟩
 ·obtain⟨hn,⟨Γ,hM⟩,hT,W9,ae0⟩:=hJ;have h1:=Sys.yf0 (Y:=Y) sc n;have h2:=Sys.vz0 (Y:=Y) sc n;refine⟨hM.fix.mem,hT.rb,hT.len.trans (Sys.T8 sc n),hM.fix.size,by rw[hT.evs];omega,by rw[hT.used,<- h2.used];omega,fun i c hc=>?_,hsc w ⟨_,_,_,hM.inv.choose_spec.1⟩ hM.get⟩;rw[hT.N1 i c hc];have h3:=List.count_le_length (a:=some i) (l:=(Y.pn sc n).who);rw[h2.who]at h3;omega
 ·obtain⟨hn,⟨Γ,hM⟩,hT,W9,ae0⟩:=hJ;exact⟨hn,⟨Γ,hM.y5 hO.sys (hM.fix.mem.rg.A0 hb) rfl rfl rfl rfl rfl⟩,hT,W9,ae0⟩
 ·have hlen:R.cl.length=Y.m:=hJ.2.2.1.len.trans (Sys.T8 sc n);obtain⟨Γ,hM⟩:=hJ.2.1;rw[Av0 hM.fix hlen]at hp;exact Lz0 hO hJ hn hp hc
 ·obtain⟨hn',⟨Γ,hM⟩,hT,W9,ae0⟩:=hJ;have hlen:R.cl.length=Y.m:=hT.len.trans (Sys.T8 sc n);rw[Av0 hM.fix hlen]at hn hb;have hq:Y.pn sc sn=Y.pn sc n:=by
   rcases hn with rfl|h
   ·rfl
   ·have:=Sys.wg0 h (sn-n)
    rwa [Nat.add_sub_cancel' hn']at this
  rw[Ho0 hM.fix hT.len]at hb;have hM':=hM.y5 hO.sys hg rfl rfl rfl rfl rfl;rw[<- hq]at hM' hT hb;refine⟨Nat.zero_le _,⟨Γ,?_⟩,⟨hT.rb,hT.evs,hT.N2,hT.used,hT.len,hT.N1,hT.ends⟩,fun j hj=>?_,hb⟩
  ·have:(fun j=>if j<0 then B8 ((Y.pn sc sn).ft[j]?) else(Y.pn sc sn).ft[j]?)=fun j=>(Y.pn sc sn).ft[j]?:=by funext j;rw[if_neg (Nat.not_lt_zero j)]
   rw[this];exact hM'
  ·show R.k8[j]? =_;rw[W9,if_neg (Nat.not_lt_zero j)];simp[hj]
 ·obtain⟨⟨hi,⟨Γ,hM⟩,hT,W9,ae0⟩,h1,h2⟩:=hJ;exact⟨hM.fix.mem,hT.rb,hT.len.trans (Sys.T8 sc sn),h1,h2⟩
 ·obtain⟨⟨hi,⟨Γ,hM⟩,hT,W9,ae0⟩,h1,h2⟩:=hJ;have u7:=(List.getElem?_eq_some_iff.1 hc).1;have hlen:R.cl.length=Y.m:=hT.len.trans (Sys.T8 sc sn);obtain⟨x,hx⟩:∃x,(Y.pn sc sn).ft[i]? =some (.inr x):=by
   rcases hM.fix.waits hc with⟨h,_⟩|⟨_,x,h,_⟩
   ·rw[hwt]at h;cases h
   ·exact⟨x,by simpa using h⟩
  have Rs0:(fun j=>if j<i then B8 ((Y.pn sc sn).ft[j]?) else(Y.pn sc sn).ft[j]?)=fun j=>if j<i+1 then B8 ((Y.pn sc sn).ft[j]?) else(Y.pn sc sn).ft[j]?:=by
   funext j;by_cases j3:j=i
   ·subst j3;rw[if_neg (by omega),if_pos (by omega),hx];rfl
   ·by_cases h3:j<i
    ·rw[if_pos h3,if_pos (by omega)]
    ·rw[if_neg h3,if_neg (by omega)]
  rw[Rs0]at hM;refine⟨⟨by omega,⟨Γ,hM⟩,hT,fun j hj=>?_,ae0⟩,h1,h2⟩;rw[W9 j hj];by_cases j3:j=i
  ·subst j3;rw[if_neg (by omega),if_pos (by omega),hx];rfl
  ·by_cases h3:j<i
   ·rw[if_pos h3,if_pos (by omega)]
   ·rw[if_neg h3,if_neg (by omega)]
 ·obtain⟨hJ,h1,h2⟩:=hJ;obtain⟨g,z1,me1,h3,h4,h5,h6,h7,h8⟩:=Ma0 (Post:=Post) hO hJ hc hwt;exact⟨g,z1,me1,h3,h4,h5,h6,h7,fun w' me0 hg hk=>h8 w' me0 hg fun X' R' u v hJ'=>hk X' R' u v ⟨hJ'.1,hJ'.2.1.trans h1,hJ'.2.2.trans h2⟩⟩
 ·have hJ0:=hJ;obtain⟨⟨hi,⟨Γ,hM⟩,hT,W9,ae0⟩,h1,h2⟩:=hJ;have hF:=hM.fix;have hlen:R.cl.length=Y.m:=hT.len.trans (Sys.T8 sc sn);refine⟨fun i=>?_,by rw[<- hT.rb];exact hF.O2,hF.pend,hF.dn,by have:=hF.cap;omega,fun fr h3 h4=>cy0 X R w hJ0.1 h1 h2 fr h3 h4⟩;by_cases h0:i=0
  ·subst h0;exact hF.ls0 rfl
  ·cases hs:X.D1 i with
   |none=>rfl
   |some s=>
    obtain⟨j,c,h5,h6,h7,_⟩:=hF.Q3 i s h0 hs;have hjl:=(List.getElem?_eq_some_iff.1 h5).1;rcases hF.waits h5 with⟨_,_,l,h8,_⟩|⟨_,x,_,h8⟩
    ·have h8:(if j<Y.m then B8 ((Y.pn sc sn).ft[j]?) else(Y.pn sc sn).ft[j]?)=some (.inl l):=h8;rw[if_pos (by omega)]at h8;cases hx:(Y.pn sc sn).ft[j]? with
     |none=>rw[hx]at h8;cases h8
     |some f=>cases f <;> (rw[hx]at h8;cases h8)
    ·rcases h8 with h8|h8
     ·rw[h6]at h8;cases h8
     ·rw[<- h7,hs]at h8;cases h8
 ·obtain⟨hi,⟨Γ,hM⟩,hT,W9,ae0⟩:=hJ;exact⟨hM.fix.mem,hT.rb,(hM.get tb (by rw[htb];simp)).trans htb⟩
end
end Go.Vy.Sc
end
