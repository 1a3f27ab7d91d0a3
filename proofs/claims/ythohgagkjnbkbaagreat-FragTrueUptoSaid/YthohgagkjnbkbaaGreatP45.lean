/- FragTrue, part 45: FrZn. Each theorem says what a function does, or a plain fact, under its own premises alone. -/
import Derived.Test.YthohgagkjnbkbaaGreatP44
set_option maxRecDepth 100000
set_option maxHeartbeats 16000000
namespace Go.Proofs.YthohgagkjnbkbaaGreat
section
open Go.RowKit
theorem chg_mid {S:Nat->Prop} {wa wb wc:World} (h1:Chg (fun _=>False) wa wb) (h2:Chg S wb wc) (h3:Chg (fun _=>False) wa wc) (hS:∀ k,S k->k < wa.heap.size):Chg (fun _=>False) wb wc:=
 ⟨h2.os,h2.tape,h2.output,h2.size,fun i hi _=>by
  by_cases h:S i
  ·exact (h3.block i (hS i h) (fun h=>h)).trans (h1.block i (hS i h) (fun h=>h)).symm
  ·exact h2.block i hi h⟩
theorem ZsT.mono {w:World} {A:Option Addr} {l:List ZC} {n k n' k':Nat} (h:ZsT w A l n k) (hn:n<=n') (hk:k<=k'):ZsT w A l n' k':=⟨h.rd,fun z hz=>let ⟨h1,h2,h3⟩:=h.each z hz;⟨h1,Nat.le_trans h2 hn,Nat.le_trans h3 hk⟩,h.ty⟩
theorem zCs_len (l:List ZC):(l.flatMap zC).length=l.length * 2:=by
 induction l with
 | nil=>rfl
 | cons z l ih=>rw[List.flatMap_cons,List.length_append,ih,zC_len,List.length_cons];omega
theorem zCs_one (l:List ZC):∀ u ∈ l.flatMap zC,u.oneCell'=true:=fun u hu=>by
 obtain ⟨z,_,h⟩:=List.mem_flatMap.1 hu;exact zC_one z u h
def wrB (r:Int):Nat->Nat
 | 0=>1
 | j+1=>wrB r j * puB (r - j)
theorem wrB_le {r:Int} {j:Nat} (h0:0<=r) (h4:r<=4) (hj:j<=4):wrB r j<=600000000:=by
 have hr:r=0\/r=1\/r=2\/r=3\/r=4:=by omega
 have hj':j=0\/j=1\/j=2\/j=3\/j=4:=by omega
 rcases hr with rfl | rfl | rfl | rfl | rfl<;>rcases hj' with rfl | rfl | rfl | rfl | rfl<;>decide
theorem capN_three {r:Int} (h4:r<=4):capN (r - 1)<=7:=by
 unfold capN;have h:(min (r - 1) 20).toNat<=3:=by omega
 have:=Nat.pow_le_pow_right (show 0 < 2 by decide) h;omega
theorem puB_le {r:Int} (h4:r<=4):puB r<=1000:=by
 unfold puB;have:(capN (r - 1)+1) * (capN (r - 1)+1)<=8 * 8:=Nat.mul_le_mul (by have:=capN_three h4;omega) (by have:=capN_three h4;omega);have:=capN_three h4;omega
theorem write25_any (w:World) (z:ZC) (S:Option Addr) (sc:Nat) (st:List Int) (r:Int) (hz:ZT w z) (hl:z.cl.length<=11/\z.gl.length<=100) (hS:Rd w w.heap.size S (intsV st)) (hst:st.length<=4) (hr:0<=r/\r<=4):
  Calls Tryz.prog 54 #[.agg (zA z),.slice S st.length sc,.int .i64 r] w fun e w'=>(∃ A l c,e=.returned (.slice A l.length c)/\ZsT w' A l 15 100/\l.length<=600000000)/\Chg (fun _=>False) w w':=by
 obtain ⟨i8,hi8,z80,z81,z82⟩:=info_3 zone_info;have hb:=Blk.new w 88 (zA z);obtain ⟨e0,e1⟩:=zcells hb;have C0:Hid (Chg (fun _=>False) w ((w.alloc (.cells (zA z) 88)).alloc (.cells (zA z) 88))):=chg2 w _ _;have hR0:Hid (Rd ((w.alloc (.cells (zA z) 88)).alloc (.cells (zA z) 88)) ((w.alloc (.cells (zA z) 88)).alloc (.cells (zA z) 88)).heap.size (some ⟨(w.alloc (.cells (zA z) 88)).heap.size,0,none⟩) (zA z).toList):=rd_lit (w.alloc (.cells (zA z) 88)) (zA z) 88;have hsz:(w.alloc (.cells (zA z) 88)).heap.size=w.heap.size+1:=by simp
 rw[hsz] at hR0;have hT0:Hid (Blk ((w.alloc (.cells (zA z) 88)).alloc (.cells (zA z) 88)) (w.heap.size+1) 88 (zA z)):=by have:=Blk.new (w.alloc (.cells (zA z) 88)) 88 (zA z);rwa [hsz] at this
 obtain ⟨w1,hw1⟩:∃ w1,w1=(w.alloc (.cells (zA z) 88)).alloc (.cells (zA z) 88):=⟨_,rfl⟩;rw[<-hw1] at C0 hR0 hT0;obtain ⟨l1,l2⟩:=hl;obtain ⟨r0,r4⟩:=hr;have HZ0:Hid (ZsT w1 (some ⟨w.heap.size+1,0,none⟩) [z] (0+11) 100):=⟨by have:=hR0.out;simpa [zC,zA] using this,fun x hx=>by rw[List.mem_singleton.1 hx];exact ⟨hz.later C0.out,by omega,l2⟩,fun ad a _=>by injection a with a;subst a;exact ⟨_,hT0.out⟩⟩;have HS:=zI (fun (w':World) (h:Chg (fun _=>False) w1 w')=>hS.later (Ct C0.out h) (fun _ h=>h.elim));have hB0:Hid ([z].length<=wrB r 0):=Nat.le_refl 1;clear hb hz hR0 hsz hS hT0;unfold zA at hw1 e0 e1 |-;go_enter Tryz.func54,Tryz.ntmps54;go_wp2_with fail
 rw[<-hw1];clear hw1 e0 e1;go_loopw [8,7] (fun x v wr=>∃ (j:Nat) (A:Option Addr) (q:List ZC) (c:Nat),j<=st.length/\x=.int .i64 j/\v=.slice A q.length c/\Hid (q.length<=wrB r j)/\Hid (ZsT wr A q (j+11) 100)/\Hid (Chg (fun _=>False) w1 wr)) (fun x _ _=>st.length - (intOf x).toNat)
 case atStart=>exact ⟨0,_,[z],1,Nat.zero_le _,rfl,rfl,hB0,HZ0,Chg.refl _ _⟩
 case round=>
  obtain ⟨j,A,q,c,hj,rfl,rfl,hqB,hQ,CR⟩:=hrel;have hqL:q.length<=600000000:=Nat.le_trans hqB.out (wrB_le r0 r4 (by omega));by_cases hlj:j < st.length
  ·obtain ⟨sx,hsx⟩:∃ x,st[j]?=some x:=⟨_,gG hlj⟩;obtain ⟨sb,so,rfl,_,s0⟩:=int_at (HS.out wr CR.out) hsx;obtain ⟨PB,hPB⟩:∃ PB,PB=puB (r - j):=⟨_,rfl⟩;have hP1:PB<=1000:=by rw[hPB];exact puB_le (by omega)
   have hnext:Hid (wrB r (j+1)=q.length * PB\/True):=.inr trivial;have hmul:Hid (∀ i:Nat,(i+1) * PB=i * PB+PB):=fun i=>by rw[Nat.add_mul,Nat.one_mul]
   have hmono:Hid (∀ i:Nat,i<=q.length->i * PB<=600000000):=fun i h=>Nat.le_trans (Nat.mul_le_mul (Nat.le_trans h hqB.out) (Nat.le_refl PB)) (by have:=wrB_le (r:=r) (j:=j+1) r0 r4 (by omega);rw[hPB];exact this)
   have hlast:Hid (q.length * PB<=wrB r (j+1)):=by
    show _<=wrB r j * puB (r - j);rw[hPB];exact Nat.mul_le_mul hqB.out (Nat.le_refl _)
   have HP:Hid (∀ (wz:World) (y:ZC),ZT wz y->y.cl.length<=14/\y.gl.length<=100->Calls Tryz.prog 84 #[.agg (zA y),.int .i64 sx,.int .i64 (r - j)] wz fun e w'=>(∃ v,e=.returned v/\ZsR wz PB (y.cl.length+1) (y.cl.length+1) v w')/\Chg (fun _=>False) wz w'):=fun wz y h1 h2=>by rw[hPB];exact put24_any wz y sx (r - j) h1 h2 ⟨by omega,by omega⟩
   have hwr:Hid (IntKind.i64.wrap (r - (j:Int))=r - (j:Int)):=by show _=_;rw[IntKind.wrap_i64];omega
   have HSx:Hid (wr.cell? ⟨sb,so+j,none⟩=some (.int .i64 sx)):=s0;clear hPB s0 hsx hnext;go_wp2_with fail
   go_loopw [10,9] (fun x v ws=>∃ (k:Nat) (p:List ZC),k<=q.length/\x=.int .i64 k/\Hid (p.length<=k * PB)/\Hid (ZL ws wr.heap.size v p (j+1+11) 100)/\Hid (Chg (fun _=>False) wr ws)) (fun x _ _=>q.length - (intOf x).toNat)
   case atStart=>exact ⟨0,[],Nat.zero_le _,rfl,Nat.zero_le _,ZL.nil _ _ _ _,Chg.refl _ _⟩
   case round=>
    rename World=>ws
    obtain ⟨k,p,hk,rfl,hpk,hLp,CS⟩:=hrel;by_cases hlk:k < q.length
    ·obtain ⟨x,hx⟩:∃ x,q[k]?=some x:=⟨_,gG hlk⟩;have hQs:=hQ.out.later CS.out;obtain ⟨b0,o0,rfl,_,hc⟩:=row_at zC_len (by omega) hQs.rd hx;have c0:=hc 0 _ rfl;have c1:=hc 1 _ rfl;rw[Nat.add_zero] at c0;have hxb:=hQs.each x (List.mem_of_getElem? hx);have HX:Hid (∀ wz,Chg (fun _=>False) ws wz->wz.cell? ⟨b0,o0+k * 2,none⟩=some (.slice x.cA x.cl.length x.cC)/\wz.cell? ⟨b0,o0+k * 2+1,none⟩=some (.slice x.gA x.gl.length x.gC)):=fun wz h=>⟨keep_cell h (fun _ h=>h) c0,keep_cell h (fun _ h=>h) c1⟩
     have HSz:Hid (∀ wz,Chg (fun _=>False) ws wz->wz.cell? ⟨sb,so+j,none⟩=some (.int .i64 sx)):=fun wz h=>keep_cell (Ct CS.out h) (fun _ h=>h) HSx.out
     have HD:Hid (∀ wz,Chg (fun _=>False) ws wz->Calls Tryz.prog 85 #[.agg #[.slice x.cA x.cl.length x.cC,.slice x.gA x.gl.length x.gC],.int .i64 sx,.int .i64 (r - j)] wz fun e w'=>(∃ v,e=.returned v/\ZoR x.cl.length x.gl.length v w')/\Chg (fun _=>False) wz w'):=fun wz h=>drop_any wz x sx (r - j) (hxb.1.later h) ⟨by omega,by omega⟩
     have hxB:Hid (x.cl.length<=j+11/\x.gl.length<=100):=⟨hxb.2.1,hxb.2.2⟩;have HW:Hid (∀ wz,Chg (fun k=>u9.ownBlock=some k) ws wz->Chg (fun _=>False) wr wz):=fun wz h=>Chg.trans CS.out h (fun i hi e=>by have h1:=(hLp.out.own.lt i e).1;omega)
     have HWno:True:=trivial;clear hQs hc c0 c1 hxb hx HWno;go_wp2_with fail
     refine region_mvk2 (by kernel_rfl) [some 25,some 26,some 27,some 28,some 29,some 30,some 31,some 32,some 33,some 34,some 35,some 36,some 37,some 38,some 39,some 40,some 41,some 42,some 43,some 44,some 45,some 46,some 9] [25,26,27,28,29,30,31,32,33,34,35,36,37,38,39,40,41,42,43,44,45,46,9] [.is (u9),.is (.slice (some ⟨b0,o0,none⟩) q.length c),.is (.int .i64 (k:Int)),.is (.pointer (some ⟨b0,o0+k * 2,none⟩)),.is (.agg #[.slice x.cA x.cl.length x.cC,.slice x.gA x.gl.length x.gC]),.is (.slice (some ⟨sb,so,none⟩) st.length sc),.is (.int .i64 (j:Int)),.is (.pointer (some ⟨sb,so+j,none⟩)),.is (.int .i64 sx),.is (.int .i64 r),.is (.int .i64 (j:Int)),.is (.int .i64 (r - (j:Int))),.su (fun v w'=>∃ y:ZC,v=.agg (zA y)/\ZT w' y/\y.cl.length<=j+11/\y.gl.length<=100/\Chg (fun _=>False) ws w'),.is (.slice (some ⟨sb,so,none⟩) st.length sc),.is (.int .i64 (j:Int)),.is (.pointer (some ⟨sb,so+j,none⟩)),.is (.int .i64 sx),.is (.int .i64 r),.is (.int .i64 (j:Int)),.is (.int .i64 (r - (j:Int))),.su (fun v w'=>∃ (A':Option Addr) (m:List ZC) (c':Nat),v=.slice A' m.length c'/\ZsT w' A' m (j+1+11) 100/\m.length<=PB/\Chg (fun _=>False) ws w'),.su (fun v w'=>∃ m:List ZC,w'.ownsRow wr.heap.size 88 2 v (p.length+m.length) (p.flatMap zC++m.flatMap zC)/\(∀ z ∈ m,ZT w' z/\z.cl.length<=j+1+11/\z.gl.length<=100)/\m.length<=PB),.su (fun v w'=>∃ m:List ZC,w'.ownsRow wr.heap.size 88 2 v (p.length+m.length) (p.flatMap zC++m.flatMap zC)/\(∀ z ∈ m,ZT w' z/\z.cl.length<=j+1+11/\z.gl.length<=100)/\m.length<=PB)] 21 (fun k=>u9.ownBlock=some k) 22 (by kernel_rfl) (by kernel_rfl) (by kernel_rfl) (by kernel_rfl) ?_ ?_
     ·refine ⟨?_,?_,?_,?_,?_,?_,?_,?_,?_,?_,?_,?_,?_,?_,?_,?_,?_,?_,?_,?_,?_,?_,trivial⟩
      ·intro f a wz _ _ _ _ hp _;have x9:(a.tmps[9]?).getD undef=u9:=(hp 22 9 (by kernel_rfl) rfl).trans rfl;exact mv_is rfl rfl (by simp[execOp,go_sem,x9]) rfl (by simp)
      ·intro f a wz _ hout _ _ _ _;have x7:(a.tmps[7]?).getD undef=.slice (some ⟨b0,o0,none⟩) q.length c:=hout 7 (by rfl);exact mv_is rfl rfl (by simp[execOp,go_sem,x7]) rfl (by simp)
      ·intro f a wz _ hout _ _ _ _;have x10:(a.tmps[10]?).getD undef=.int .i64 (k:Int):=hout 10 (by rfl);exact mv_is rfl rfl (by simp[execOp,go_sem,x10]) rfl (by simp)
      ·intro f a wz hin _ _ _ _ hd;have x26:(a.tmps[26]?).getD undef=.slice (some ⟨b0,o0,none⟩) q.length c:=(hin 26 (by rfl)).trans (hd 1 (by kernel_rfl));have x27:(a.tmps[27]?).getD undef=.int .i64 (k:Int):=(hin 27 (by rfl)).trans (hd 2 (by kernel_rfl));exact mv_is rfl rfl (by simp[execOp,go_sem,Result.andThen,x26,x27,hlk]) rfl (by simp)
      ·intro f a wz hin _ _ hA _ hd;have x28:(a.tmps[28]?).getD undef=.pointer (some ⟨b0,o0+k * 2,none⟩):=(hin 28 (by rfl)).trans (hd 3 (by kernel_rfl));exact mv_is rfl rfl (by simp[execOp,go_sem,Result.andThen,x28,(HX.out wz (hA (.inr (by kernel_rfl)))).1,(HX.out wz (hA (.inr (by kernel_rfl)))).2]) rfl (by simp)
      ·intro f a wz _ hout _ _ _ _;have x1:(a.tmps[1]?).getD undef=.slice (some ⟨sb,so,none⟩) st.length sc:=hout 1 (by rfl);exact mv_is rfl rfl (by simp[execOp,go_sem,x1]) rfl (by simp)
      ·intro f a wz _ hout _ _ _ _;have x8:(a.tmps[8]?).getD undef=.int .i64 (j:Int):=hout 8 (by rfl);exact mv_is rfl rfl (by simp[execOp,go_sem,x8]) rfl (by simp)
      ·intro f a wz hin _ _ _ _ hd;have x30:(a.tmps[30]?).getD undef=.slice (some ⟨sb,so,none⟩) st.length sc:=(hin 30 (by rfl)).trans (hd 5 (by kernel_rfl));have x31:(a.tmps[31]?).getD undef=.int .i64 (j:Int):=(hin 31 (by rfl)).trans (hd 6 (by kernel_rfl));exact mv_is rfl rfl (by simp[execOp,go_sem,Result.andThen,x30,x31,hlj]) rfl (by simp)
      ·intro f a wz hin _ _ hA _ hd;have x32:(a.tmps[32]?).getD undef=.pointer (some ⟨sb,so+j,none⟩):=(hin 32 (by rfl)).trans (hd 7 (by kernel_rfl));exact mv_is rfl rfl (by simp[execOp,go_sem,Result.andThen,x32,HSz.out wz (hA (.inr (by kernel_rfl)))]) rfl (by simp)
      ·intro f a wz _ hout _ _ _ _;have x2:(a.tmps[2]?).getD undef=.int .i64 r:=hout 2 (by rfl);exact mv_is rfl rfl (by simp[execOp,go_sem,x2]) rfl (by simp)
      ·intro f a wz _ hout _ _ _ _;have x8:(a.tmps[8]?).getD undef=.int .i64 (j:Int):=hout 8 (by rfl);exact mv_is rfl rfl (by simp[execOp,go_sem,x8]) rfl (by simp)
      ·intro f a wz hin _ _ _ _ hd;have x34:(a.tmps[34]?).getD undef=.int .i64 r:=(hin 34 (by rfl)).trans (hd 9 (by kernel_rfl));have x35:(a.tmps[35]?).getD undef=.int .i64 (j:Int):=(hin 35 (by rfl)).trans (hd 10 (by kernel_rfl));exact mv_is rfl rfl (by simp[execOp,go_sem,x34,x35,hwr.out]) rfl (by simp)
      ·intro f a wz hin _ _ hA _ hd;have x29:(a.tmps[29]?).getD undef=.agg #[.slice x.cA x.cl.length x.cC,.slice x.gA x.gl.length x.gC]:=(hin 29 (by rfl)).trans (hd 4 (by kernel_rfl));have x33:(a.tmps[33]?).getD undef=.int .i64 sx:=(hin 33 (by rfl)).trans (hd 8 (by kernel_rfl));have x36:(a.tmps[36]?).getD undef=.int .i64 (r - (j:Int)):=(hin 36 (by rfl)).trans (hd 11 (by kernel_rfl));have hAc:=hA (.inr (by kernel_rfl));refine mv_call (f:=85) (args:=#[.agg #[.slice x.cA x.cl.length x.cC,.slice x.gA x.gl.length x.gC],.int .i64 sx,.int .i64 (r - j)]) rfl rfl (by simp[go_sem,x29,x33,x36]) rfl (by simp) ((HD.out wz hAc).mono ?_);rintro e w5' ⟨⟨v,rfl,y,hy,hy1,hy2,hy3⟩,hc⟩;have hxB':=hxB.out;exact ⟨_,rfl,⟨y,hy,hy1,by omega,by omega,Ct hAc hc⟩,hc⟩
      ·intro f a wz _ hout _ _ _ _;have x1:(a.tmps[1]?).getD undef=.slice (some ⟨sb,so,none⟩) st.length sc:=hout 1 (by rfl);exact mv_is rfl rfl (by simp[execOp,go_sem,x1]) rfl (by simp)
      ·intro f a wz _ hout _ _ _ _;have x8:(a.tmps[8]?).getD undef=.int .i64 (j:Int):=hout 8 (by rfl);exact mv_is rfl rfl (by simp[execOp,go_sem,x8]) rfl (by simp)
      ·intro f a wz hin _ _ _ _ hd;have x38:(a.tmps[38]?).getD undef=.slice (some ⟨sb,so,none⟩) st.length sc:=(hin 38 (by rfl)).trans (hd 13 (by kernel_rfl));have x39:(a.tmps[39]?).getD undef=.int .i64 (j:Int):=(hin 39 (by rfl)).trans (hd 14 (by kernel_rfl));exact mv_is rfl rfl (by simp[execOp,go_sem,Result.andThen,x38,x39,hlj]) rfl (by simp)
      ·intro f a wz hin _ _ hA _ hd;have x40:(a.tmps[40]?).getD undef=.pointer (some ⟨sb,so+j,none⟩):=(hin 40 (by rfl)).trans (hd 15 (by kernel_rfl));exact mv_is rfl rfl (by simp[execOp,go_sem,Result.andThen,x40,HSz.out wz (hA (.inr (by kernel_rfl)))]) rfl (by simp)
      ·intro f a wz _ hout _ _ _ _;have x2:(a.tmps[2]?).getD undef=.int .i64 r:=hout 2 (by rfl);exact mv_is rfl rfl (by simp[execOp,go_sem,x2]) rfl (by simp)
      ·intro f a wz _ hout _ _ _ _;have x8:(a.tmps[8]?).getD undef=.int .i64 (j:Int):=hout 8 (by rfl);exact mv_is rfl rfl (by simp[execOp,go_sem,x8]) rfl (by simp)
      ·intro f a wz hin _ _ _ _ hd;have x42:(a.tmps[42]?).getD undef=.int .i64 r:=(hin 42 (by rfl)).trans (hd 17 (by kernel_rfl));have x43:(a.tmps[43]?).getD undef=.int .i64 (j:Int):=(hin 43 (by rfl)).trans (hd 18 (by kernel_rfl));exact mv_is rfl rfl (by simp[execOp,go_sem,x42,x43,hwr.out]) rfl (by simp)
      ·intro f a wz hin _ _ hA _ hd;obtain ⟨v37w,v37c,v37p⟩:=hd 12 (by kernel_rfl);have x37:=hin 37 (by rfl);have x41:(a.tmps[41]?).getD undef=.int .i64 sx:=(hin 41 (by rfl)).trans (hd 16 (by kernel_rfl));have x44:(a.tmps[44]?).getD undef=.int .i64 (r - (j:Int)):=(hin 44 (by rfl)).trans (hd 19 (by kernel_rfl));have hAc:=hA (.inr (by kernel_rfl));obtain ⟨y,v37e,hy1,hy2,hy3,hyc⟩:=v37p;replace x37:=x37.trans v37e;have hm:=chg_mid hyc v37c hAc (fun k hk=>own_lt hLp.out.own k hk.2);refine mv_call (f:=84) (args:=#[.agg (zA y),.int .i64 sx,.int .i64 (r - j)]) rfl rfl (by simp[go_sem,x37,x41,x44]) rfl (by simp) ((HP.out wz y (hy1.later hm) ⟨by omega,hy3⟩).mono ?_);rintro e w5' ⟨⟨v,rfl,m,hm1,hm2⟩,hc⟩;obtain ⟨A',c',rfl,-,-⟩:=own_slice hm1.own;exact ⟨_,rfl,⟨A',m,c',rfl,(hm1.zs rfl).mono (by omega) (by omega),hm2,Ct hAc hc⟩,hc⟩
      ·intro f a wz hin _ hC hA _ hd;have x25:(a.tmps[25]?).getD undef=u9:=(hin 25 (by rfl)).trans (hd 0 (by kernel_rfl));obtain ⟨v45w,v45c,v45p⟩:=hd 20 (by kernel_rfl);have x45:=hin 45 (by rfl);have hAc:=hA (.inl rfl);obtain ⟨A',m,c',v45e,hm1,hm2,hmc⟩:=v45p;have hm:=chg_mid hmc v45c hAc (fun k hk=>own_lt hLp.out.own k hk.2);have hm3:=hm1.later hm;have hpb:=hpk.out;have hb1:=hmul.out k;have hb2:=hmono.out (k+1) hlk;obtain ⟨v',w',hr',h2,h3⟩:=run_copy (P:=Tryz.prog) wz wr.heap.size 138 138 88 i8 _ 2 48 Tryz.underlying138 hi8 z80 z81 z82 rfl (by omega) u9 p.length (p.flatMap zC) (own_chg hLp.out.own hAc (fun _ _ h=>h)) A' m.length c' wz.heap.size (m.flatMap zC) (zCs_len m) hm3.rd (zCs_one m) (by unfold maxLen;omega) (by omega) (HW.out wz hC).size;have hcg:Chg (fun k=>u9.ownBlock=some k) wz w':=Chg.grown (Chg.refl _ _) h3 (fun k hk=>.inl hk);exact mv_mv rfl rfl (run_app rfl x25 (x45.trans v45e) hr') rfl ⟨m,h2,fun z hz=>let ⟨h1,h2⟩:=hm3.each z hz;⟨h1.far hcg (fun k hk _=>let ⟨cur,hb⟩:=own_blk (own_chg hLp.out.own hAc (fun _ _ h=>h)) hk;⟨88,cur,hb,by decide,by decide⟩),h2⟩,hm2⟩ rfl hcg (by simp)
     ·intro f a' wz ha hin hout hC3 hd;obtain ⟨v46w,v46c,m,hown,hmz,hml⟩:=hd 21 (by omega);replace v46c:=v46c.mono (T:=fun _=>False) (fun _ _ h=>h.1 rfl);have x46:=hin 46 (by rfl);have HLn:Hid (ZL wz wr.heap.size (f 46) (p++m) (j+1+11) 100):=by
       have hown':wz.ownsRow wr.heap.size 88 2 (f 46) (p.length+m.length) (p.flatMap zC++m.flatMap zC):=own_chg hown v46c (fun _ _ h=>h);refine ⟨by rw[List.length_append,List.flatMap_append];exact hown',fun x hx=>?_⟩;rcases List.mem_append.1 hx with hx | hx
       ·exact hLp.out.chgS hC3 x hx
       ·obtain ⟨h1,h2⟩:=hmz x hx;exact ⟨h1.later v46c,h2⟩
      have CSn:=zI (HW.out wz hC3);refine wpOp_valueD (w':=wz) (v:=f 46) (d:=9) rfl rfl (by simp[execOp,go_sem,x46]) rfl ?_;obtain ⟨v9,hv9⟩:∃ v9,v9=f 46:=⟨_,rfl⟩;rw[<-hv9] at HLn |-;have hpn:Hid ((p++m).length<=(k+1) * PB):=by have:=hpk.out;show _<=_;rw[hmul.out,List.length_append];omega
      clear hd hC3 hin hout x46 hown hmz v46c hv9 HD HW HX HSz hml;subst ha;simp only[putAll,List.setIfInBounds_toArray,List.set_cons_succ,List.set_cons_zero,Act.put];go_wp2_with fail
      go_roundw
      case rel=>exact ⟨k+1,p++m,by omega,by go_num,hpn,HLn,CSn⟩
      case measure=>(simp[intOf]<;>omega)
    ·obtain rfl:k=q.length:=by omega
     obtain ⟨A9,c9,rfl,hc1,hc2⟩:=own_slice hLp.out.own;have CS1:=zI (Ct CR.out CS.out);have hLz:=hLp.out;have HU:=zI (unique_any ws A9 c9 p (j+1+11) 100 (hLz.zs rfl) (by have:=hpk.out;have:=hmono.out q.length (Nat.le_refl _);omega));have hpl:=zI (Nat.le_trans hpk.out hlast.out);clear hLz hc1 hc2;go_wp2_with fail
     go_at_call 86
     refine HU.out.mono ?_;rintro e w8 ⟨⟨v,rfl,q8,hq8,hq8l⟩,hC8⟩;obtain ⟨A8,c8,rfl,-,-⟩:=own_slice hq8.own;have hQ8:=zI (hq8.zs rfl);have C8:=zI (Ct CS1.out hC8);have hB8:=zI (Nat.le_trans hq8l hpl.out);clear hq8 hq8l hC8;go_wp2_with fail
     go_roundw
     case rel=>exact ⟨j+1,A8,q8,c8,by omega,by go_num,rfl,hB8,hQ8,C8⟩
     case measure=>(simp[intOf]<;>omega)
  ·obtain rfl:j=st.length:=by omega
   have hfin:Hid (ZsT wr A q 15 100):=hQ.out.mono (by omega) (Nat.le_refl _);go_wp2
   go_ret;exact ⟨⟨_,_,_,rfl,hfin.out,hqL⟩,Ct C0.out CR.out⟩
end
end Go.Proofs.YthohgagkjnbkbaaGreat
