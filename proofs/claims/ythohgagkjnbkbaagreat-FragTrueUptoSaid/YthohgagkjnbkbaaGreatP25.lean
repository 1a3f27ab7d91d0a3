/- FragTrue, part 25: FrStD RgStore. Each theorem says what a function does, or a plain fact, under its own premises alone. -/
import Derived.Test.YthohgagkjnbkbaaGreatP24
set_option maxRecDepth 100000
set_option maxHeartbeats 16000000
namespace Go.Proofs.YthohgagkjnbkbaaGreat
section
open Go.RowKit
theorem miC_at {w:World} {B:Nat} {A:Option Addr} {l:List MiC} (h:Rd w B A (l.flatMap miC)) {i:Nat} {x:MiC} (hi:l[i]?=some x):∃ b o,A=some ⟨b,o,none⟩/\b < B/\w.cell? ⟨b,o+i * 5,none⟩=some (.string x.nm)/\w.cell? ⟨b,o+i * 5+1,none⟩=some (.int .i64 x.stage)/\w.cell? ⟨b,o+i * 5+2,none⟩=some (.int .i64 x.event)/\w.cell? ⟨b,o+i * 5+3,none⟩=some (.slice x.ia x.il x.ic)/\w.cell? ⟨b,o+i * 5+4,none⟩=some (.bool x.fin):=by
 obtain ⟨b,o,hA,hb,hc⟩:=row_at (f:=miC) (C:=5) (fun _=>rfl) (by omega) h hi;exact ⟨b,o,hA,hb,hc 0 _ rfl,hc 1 _ rfl,hc 2 _ rfl,hc 3 _ rfl,hc 4 _ rfl⟩
theorem guC_at {w:World} {B:Nat} {A:Option Addr} {l:List GuC} (h:Rd w B A (l.flatMap guC)) {i:Nat} {x:GuC} (hi:l[i]?=some x):∃ b o,A=some ⟨b,o,none⟩/\b < B/\w.cell? ⟨b,o+i * 3,none⟩=some (.int .i64 x.stage)/\w.cell? ⟨b,o+i * 3+1,none⟩=some (.int .i64 x.event)/\w.cell? ⟨b,o+i * 3+2,none⟩=some (.slice x.ia x.il x.ic):=by
 obtain ⟨b,o,hA,hb,hc⟩:=row_at (f:=guC) (C:=3) (fun _=>rfl) (by omega) h hi;exact ⟨b,o,hA,hb,hc 0 _ rfl,hc 1 _ rfl,hc 2 _ rfl⟩
theorem fires_any (w:World) (m:MC) (X:MX) (s:SC) (vs:List Int) (b:Bool) (n ev:Int) (hX:XOK w m X) (hS:SOK w s) (hV:VOK w s vs):Calls Tryz.prog 91 #[.agg (mA m),.agg (sA s),.agg #[.bool b,.int .i64 n],.int .i64 ev] w fun e w'=>(∃ b,e=.returned (.bool b))/\Chg (fun _=>False) w w':=by
 obtain ⟨h1,h2,h3⟩:=cells3 w 32 134 130 (mA m) (sA s) #[.bool b,.int .i64 n];have hC:=zI (chg3 w (.cells (mA m) 32) (.cells (sA s) 134) (.cells #[.bool b,.int .i64 n] 130));obtain ⟨w1,hw1⟩:∃ w1,w1=(((w.alloc (.cells (mA m) 32)).alloc (.cells (sA s) 134)).alloc (.cells #[.bool b,.int .i64 n] 130)):=⟨_,rfl⟩;rw[<-hw1] at hC h1 h2 h3;have HX:=zI (fun (w':World) (h:Chg (fun _=>False) w1 w')=>(hX.later hC.out).later h);have HS:=zI (fun (w':World) (h:Chg (fun _=>False) w1 w')=>(hS.later hC.out).later h);have HV:=zI (fun (w':World) (h:Chg (fun _=>False) w1 w')=>(hV.later hC.out).later h);have HM:=zI (fun (w':World) (h:Chg (fun _=>False) w1 w')=>mcells (h1.chg h (fun h=>h)));have HC:=zI (fun (w':World) (h:Chg (fun _=>False) w1 w')=>scells (h2.chg h (fun h=>h)));have HN:=zI (fun (w':World) (h:Chg (fun _=>False) w1 w')=>show w'.cell? ⟨w.heap.size+2,0,none⟩=some (.bool b)/\w'.cell? ⟨w.heap.size+2,1,none⟩=some (.int .i64 n) from ⟨by rw[(h3.chg h (fun h=>h)).cell];rfl,by rw[(h3.chg h (fun h=>h)).cell];rfl⟩);have hsn:=zI hX.stN;obtain ⟨-,-,-,-,e4,-,e6,e7,-,-⟩:=HM.out w1 (Chg.refl _ _);obtain ⟨f0,f1,f2,f3,f4⟩:=HC.out w1 (Chg.refl _ _);obtain ⟨g0,g1⟩:=HN.out w1 (Chg.refl _ _);have hop:=zI hS.opR;clear h1 h2 h3 hX hS hV;unfold mA sA at hw1 |-;cases b with
 | true=>
  obtain ⟨c,qc⟩:∃ c,inB18v n m.mi.length=c:=⟨_,rfl⟩;have HI:=zI (fun w'=>inB18 w' n m.mi.length qc);cases c with
  | false=>
   clear qc;go_enter Tryz.func91,Tryz.ntmps91;go_wp2_with fail
   rw[<-hw1];clear hw1;go_wp2_with (go_at_call 119;refine (HI.out _).mono ?_;rintro e w' ⟨rfl,rfl⟩)
   go_ret;exact ⟨⟨_,rfl⟩,hC.out⟩
  | true=>
   obtain ⟨k,rfl,hk⟩:=inB18_yes qc;obtain ⟨x,hx⟩:∃ x,m.mi[k]?=some x:=⟨_,gG hk⟩;obtain ⟨b0,o0,hA,_,c0,c1,c2,c3,c4⟩:=miC_at (HX.out w1 (Chg.refl _ _)).mo.mi hx;have C2:Hid (Chg (fun _=>False) w1 (w1.alloc (.cells #[.string x.nm,.int .i64 x.stage,.int .i64 x.event,.slice x.ia x.il x.ic,.bool x.fin] 71))):=(Chg.refl _ _).alloc _;obtain ⟨b5,er,HO⟩:=holds_cd (mi_cond (HX.out _ C2.out) hx) (HS.out _ C2.out) (HV.out _ C2.out);have HB:=zI (Blk.new w1 71 #[.string x.nm,.int .i64 x.stage,.int .i64 x.event,.slice x.ia x.il x.ic,.bool x.fin]);obtain ⟨p0,p1,p2,p3,p4⟩:=HC.out _ C2.out;unfold sA at HO;replace HO:=zI HO;rw[hA] at e7 hw1;rw[hA];clear hx qc hA;go_enter Tryz.func91,Tryz.ntmps91;go_wp2_with fail
   rw[<-hw1];clear hw1;go_wp2_with (go_at_call 119;refine (HI.out _).mono ?_;rintro e w' ⟨rfl,rfl⟩)
   go_at_call 98
   refine HO.out.mono ?_;rintro e w3 ⟨rfl,hC3⟩;have C3:=zI (Ct C2.out hC3);have hB3:=HB.out.chg hC3 (fun h=>h);clear hC3 HO p0 p1 p2 p3 p4 HI;obtain ⟨-,-,-,-,e4',-,-,e7',-,-⟩:=HM.out w3 C3.out;obtain ⟨f0',f1',-,-,-⟩:=HC.out w3 C3.out;have n1:w3.cell? ⟨w1.heap.size,1,none⟩=some (.int .i64 x.stage):=by rw[hB3.cell];rfl
   have n2:w3.cell? ⟨w1.heap.size,2,none⟩=some (.int .i64 x.event):=by rw[hB3.cell];rfl
   obtain ⟨b1,q1⟩:∃ b,inB18v x.stage m.nS=b:=⟨_,rfl⟩;have H1:=zI (fun w'=>inB18 w' x.stage m.nS q1);obtain ⟨b2,q2⟩:∃ b,(x.event ==-1)=b:=⟨_,rfl⟩;obtain ⟨b3,q3⟩:∃ b,(x.event ==ev)=b:=⟨_,rfl⟩;obtain ⟨b4,q4⟩:∃ b,hasB s.op x.stage=b:=⟨_,rfl⟩;have H4:=zI (fun w'=>refHas_any w' s.op x.stage hop.out);rw[q4] at H4;obtain ⟨es,hes⟩:∃ es,es=x.event:=⟨_,rfl⟩;obtain ⟨ss,hss⟩:∃ ss,ss=x.stage:=⟨_,rfl⟩;simp only[<-hes,<-hss] at n1 n2 q2 q3 H1 H4;clear q1 q4 hB3 HB c0 c1 c2 c3 c4 hes hss f0 f1 f2 f3 f4 e4 e6 e7 g0 g1;cases b1 with
   | false=>
    go_wp2_with (first | (go_at_call 119;refine (H1.out _).mono ?_;rintro e w' ⟨rfl,rfl⟩) | (go_at_call 99;refine (H4.out _).mono ?_;rintro e w' ⟨rfl,rfl⟩))
    go_ret;exact ⟨⟨_,rfl⟩,Ct hC.out C3.out⟩
   | true=>
    cases b2 with
    | false=>
     cases b3 with
     | false=>
      go_wp2_with (first | (go_at_call 119;refine (H1.out _).mono ?_;rintro e w' ⟨rfl,rfl⟩) | (go_at_call 99;refine (H4.out _).mono ?_;rintro e w' ⟨rfl,rfl⟩))
      go_ret;exact ⟨⟨_,rfl⟩,Ct hC.out C3.out⟩
     | true=>
      cases b4 with
      | false=>
       go_wp2_with (first | (go_at_call 119;refine (H1.out _).mono ?_;rintro e w' ⟨rfl,rfl⟩) | (go_at_call 99;refine (H4.out _).mono ?_;rintro e w' ⟨rfl,rfl⟩))
       go_ret;exact ⟨⟨_,rfl⟩,Ct hC.out C3.out⟩
      | true=>
       go_wp2_with (first | (go_at_call 119;refine (H1.out _).mono ?_;rintro e w' ⟨rfl,rfl⟩) | (go_at_call 99;refine (H4.out _).mono ?_;rintro e w' ⟨rfl,rfl⟩))
       go_ret;exact ⟨⟨_,rfl⟩,Ct hC.out C3.out⟩
    | true=>
     cases b4 with
     | false=>
      go_wp2_with (first | (go_at_call 119;refine (H1.out _).mono ?_;rintro e w' ⟨rfl,rfl⟩) | (go_at_call 99;refine (H4.out _).mono ?_;rintro e w' ⟨rfl,rfl⟩))
      go_ret;exact ⟨⟨_,rfl⟩,Ct hC.out C3.out⟩
     | true=>
      go_wp2_with (first | (go_at_call 119;refine (H1.out _).mono ?_;rintro e w' ⟨rfl,rfl⟩) | (go_at_call 99;refine (H4.out _).mono ?_;rintro e w' ⟨rfl,rfl⟩))
      go_ret;exact ⟨⟨_,rfl⟩,Ct hC.out C3.out⟩
 | false=>
  obtain ⟨c,qc⟩:∃ c,inB18v n m.gu.length=c:=⟨_,rfl⟩;have HIK:=zI (fun n':KW w1=>kept_same (inB18 n'.w n m.gu.length qc));cases c with
  | false=>
   clear qc;have K4:=fun n:KW w1=>kept_cell e4 n
   have K6:=fun n:KW w1=>kept_cell e6 n
   have G1:=fun n:KW w1=>kept_cell g1 n
   have HJK:Hid True:=trivial;clear HJK;go_enter Tryz.func91,Tryz.ntmps91;go_wp2_with fail
   rw[<-hw1];clear hw1;go_wp2_with fail
   refine wp_region_kept w1 (Chg.refl _ _) (by kernel_rfl) (by kernel_rfl) ?_;repeat (go_big_quiet_step (with_reducible exact HIK.out _))
   refine wpQuiet_nil ?_;rintro w4 ⟨n4,rfl⟩;have C4:=zI n4.h;obtain ⟨w5,hw5⟩:∃ w5,w5=n4.w:=⟨_,rfl⟩;rw[<-hw5] at C4 |-;go_wp2
   go_ret;exact ⟨⟨_,rfl⟩,Ct hC.out C4.out⟩
  | true=>
   obtain ⟨k,rfl,hk⟩:=inB18_yes qc;obtain ⟨x,hx⟩:∃ x,m.gu[k]?=some x:=⟨_,gG hk⟩;obtain ⟨b0,o0,hA,_,c0,c1,c2⟩:=guC_at (HX.out w1 (Chg.refl _ _)).mo.gu hx;rw[hA] at e6 hw1;rw[hA];have K4:=fun n:KW w1=>kept_cell e4 n
   have K6:=fun n:KW w1=>kept_cell e6 n
   have G1:=fun n:KW w1=>kept_cell g1 n
   have U0:=fun n:KW w1=>kept_cell c0 n
   have U1:=fun n:KW w1=>kept_cell c1 n
   have U2:=fun n:KW w1=>kept_cell c2 n
   obtain ⟨d,qd⟩:∃ d,inB18v x.stage m.nS=d:=⟨_,rfl⟩;have HJK:=zI (fun n':KW w1=>kept_same (inB18 n'.w x.stage m.nS qd));have HM2:Hid (∀ w',Chg (fun _=>False) w1 w'->w'.cell? ⟨w.heap.size,6,none⟩=some (.slice (some ⟨b0,o0,none⟩) m.gu.length m.cG)):=fun w' h=>by have:=(HM.out w' h).2.2.2.2.2.2.1;rw[hA] at this;exact this
   clear qc hA;cases d with
   | false=>
    clear qd hx;go_enter Tryz.func91,Tryz.ntmps91;go_wp2_with fail
    rw[<-hw1];clear hw1;go_wp2_with fail
    refine wp_region_kept w1 (Chg.refl _ _) (by kernel_rfl) (by kernel_rfl) ?_;repeat (go_big_quiet_step (first | with_reducible exact HIK.out _ | with_reducible exact HJK.out _))
    refine wpQuiet_nil ?_;rintro w4 ⟨n4,rfl⟩;have C4:=zI n4.h;obtain ⟨w5,hw5⟩:∃ w5,w5=n4.w:=⟨_,rfl⟩;rw[<-hw5] at C4 |-;go_wp2
    go_ret;exact ⟨⟨_,rfl⟩,Ct hC.out C4.out⟩
   | true=>
    obtain ⟨j,hj,hj2⟩:=inB18_yes qd;obtain ⟨y,hy⟩:∃ y,X.st[j]?=some y:=⟨_,gG (by rw[<-hsn.out];exact hj2)⟩;clear qd;replace hj:=zI hj;go_enter Tryz.func91,Tryz.ntmps91;go_wp2_with fail
    rw[<-hw1];clear hw1;go_wp2_with fail
    refine wp_region_kept w1 (Chg.refl _ _) (by kernel_rfl) (by kernel_rfl) ?_;repeat (go_big_quiet_step (first | with_reducible exact HIK.out _ | with_reducible exact HJK.out _))
    refine wpQuiet_nil ?_;rintro w4 ⟨n4,rfl⟩;have C4:=zI n4.h;obtain ⟨w5,hw5⟩:∃ w5,w5=n4.w:=⟨_,rfl⟩;rw[<-hw5] at C4 |-;clear K4 K6 G1 U0 U1 U2 HIK HJK hw5;have C2:Hid (Chg (fun _=>False) w1 (w5.alloc (.cells #[.int .i64 x.stage,.int .i64 x.event,.slice x.ia x.il x.ic] 69))):=C4.out.alloc _;obtain ⟨b2,o2,hA2,_,hcs⟩:=row_at (f:=stC) (C:=2) (fun _=>rfl) (by omega) (HX.out _ C2.out).st hy;have s1:=hcs 1 _ rfl;obtain ⟨-,-,-,-,e4',-,-,-,-,-⟩:=HM.out _ C2.out;have e6':=HM2.out w5 C4.out;obtain ⟨b3,o3,hA3,_,c0',c1',c2'⟩:=guC_at (HX.out w5 C4.out).mo.gu hx;have hA4:b3=b0/\o3=o0:=by
     have h6:=(HM.out w5 C4.out).2.2.2.2.2.2.1;rw[e6',hA3] at h6;injection h6 with h6;injection h6 with h6;injection h6 with h6;injection h6 with h7 h8 _;exact ⟨h7.symm,h8.symm⟩
    obtain ⟨rfl,rfl⟩:=hA4;rw[hA2] at e4';obtain ⟨f0',f1',f2',f3',f4'⟩:=HC.out _ C2.out;obtain ⟨g0',g1'⟩:=HN.out w5 C4.out;obtain ⟨b5,er,HO⟩:=holds_cd (gu_cond (HX.out _ C2.out) hx) (HS.out _ C2.out) (HV.out _ C2.out);have HB:=zI (Blk.new w5 69 #[.int .i64 x.stage,.int .i64 x.event,.slice x.ia x.il x.ic]);unfold sA at HO;replace HO:=zI HO;replace hj:=hj.out;obtain ⟨ss,hss⟩:∃ ss,ss=x.stage:=⟨_,rfl⟩;obtain ⟨es,hes⟩:∃ es,es=x.event:=⟨_,rfl⟩;obtain ⟨pp,hpp⟩:∃ pp,pp=y.2:=⟨_,rfl⟩;simp only[<-hss] at hj HB HO C2 c0' s1 e4' f0' f1' f2' f3' f4' |-;simp only[<-hes] at HB HO C2 c1' s1 e4' f0' f1' f2' f3' f4' |-;simp only[<-hpp] at s1;subst hj;clear c0 c1 c2 e4 e6 e7 f0 f1 f2 f3 f4 g0 g1 hx hy hA3 hA2 hcs hss hes hpp;go_wp2_with fail
    go_at_call 98
    refine HO.out.mono ?_;rintro e w3 ⟨rfl,hC3⟩;have C3:=zI (Ct C2.out hC3);have hB3:=HB.out.chg hC3 (fun h=>h);clear hC3 HO f0' f1' f2' f3' f4' e4' s1 e6' c0' c1' c2' g0' g1';obtain ⟨-,-,-,-,e4',-,-,-,-,-⟩:=HM.out w3 C3.out;obtain ⟨-,f1',-,-,-⟩:=HC.out w3 C3.out;have n0:w3.cell? ⟨w5.heap.size,0,none⟩=some (.int .i64 (j:Int)):=by rw[hB3.cell];rfl
    have n1:w3.cell? ⟨w5.heap.size,1,none⟩=some (.int .i64 es):=by rw[hB3.cell];rfl
    obtain ⟨a2,q2⟩:∃ b,(es ==-1)=b:=⟨_,rfl⟩;obtain ⟨a3,q3⟩:∃ b,(es ==ev)=b:=⟨_,rfl⟩;obtain ⟨a4,q4⟩:∃ b,hasB s.op (j:Int)=b:=⟨_,rfl⟩;have H4:=zI (fun w'=>refHas_any w' s.op (j:Int) hop.out);rw[q4] at H4;obtain ⟨a5,q5⟩:∃ b,(pp ==-1)=b:=⟨_,rfl⟩;obtain ⟨a6,q6⟩:∃ b,inB18v pp m.nS=b:=⟨_,rfl⟩;have H6:=zI (fun w'=>inB18 w' pp m.nS q6);obtain ⟨a7,q7⟩:∃ b,hasB s.op pp=b:=⟨_,rfl⟩;have H7:=zI (fun w'=>refHas_any w' s.op pp hop.out);rw[q7] at H7;clear q4 q6 q7 hB3 HB;cases a2 with
    | false=>
     cases a3 with
     | false=>
      go_wp2_with (first | (go_at_call 119;refine (H6.out _).mono ?_;rintro e w' ⟨rfl,rfl⟩) | (go_at_call 99;first | (refine (H4.out _).mono ?_;rintro e w' ⟨rfl,rfl⟩;clear H4) | (refine (H7.out _).mono ?_;rintro e w' ⟨rfl,rfl⟩)))
      go_ret;exact ⟨⟨_,rfl⟩,Ct hC.out C3.out⟩
     | true=>
      cases a4 with
      | false=>
       cases a5 with
       | false=>
        cases a6 with
        | false=>
         go_wp2_with (first | (go_at_call 119;refine (H6.out _).mono ?_;rintro e w' ⟨rfl,rfl⟩) | (go_at_call 99;first | (refine (H4.out _).mono ?_;rintro e w' ⟨rfl,rfl⟩;clear H4) | (refine (H7.out _).mono ?_;rintro e w' ⟨rfl,rfl⟩)))
         go_ret;exact ⟨⟨_,rfl⟩,Ct hC.out C3.out⟩
        | true=>
         cases a7 with
         | false=>
          go_wp2_with (first | (go_at_call 119;refine (H6.out _).mono ?_;rintro e w' ⟨rfl,rfl⟩) | (go_at_call 99;first | (refine (H4.out _).mono ?_;rintro e w' ⟨rfl,rfl⟩;clear H4) | (refine (H7.out _).mono ?_;rintro e w' ⟨rfl,rfl⟩)))
          go_ret;exact ⟨⟨_,rfl⟩,Ct hC.out C3.out⟩
         | true=>
          go_wp2_with (first | (go_at_call 119;refine (H6.out _).mono ?_;rintro e w' ⟨rfl,rfl⟩) | (go_at_call 99;first | (refine (H4.out _).mono ?_;rintro e w' ⟨rfl,rfl⟩;clear H4) | (refine (H7.out _).mono ?_;rintro e w' ⟨rfl,rfl⟩)))
          go_ret;exact ⟨⟨_,rfl⟩,Ct hC.out C3.out⟩
       | true=>
        go_wp2_with (first | (go_at_call 119;refine (H6.out _).mono ?_;rintro e w' ⟨rfl,rfl⟩) | (go_at_call 99;first | (refine (H4.out _).mono ?_;rintro e w' ⟨rfl,rfl⟩;clear H4) | (refine (H7.out _).mono ?_;rintro e w' ⟨rfl,rfl⟩)))
        go_ret;exact ⟨⟨_,rfl⟩,Ct hC.out C3.out⟩
      | true=>
       go_wp2_with (first | (go_at_call 119;refine (H6.out _).mono ?_;rintro e w' ⟨rfl,rfl⟩) | (go_at_call 99;first | (refine (H4.out _).mono ?_;rintro e w' ⟨rfl,rfl⟩;clear H4) | (refine (H7.out _).mono ?_;rintro e w' ⟨rfl,rfl⟩)))
       go_ret;exact ⟨⟨_,rfl⟩,Ct hC.out C3.out⟩
    | true=>
     cases a4 with
     | false=>
      cases a5 with
      | false=>
       cases a6 with
       | false=>
        go_wp2_with (first | (go_at_call 119;refine (H6.out _).mono ?_;rintro e w' ⟨rfl,rfl⟩) | (go_at_call 99;first | (refine (H4.out _).mono ?_;rintro e w' ⟨rfl,rfl⟩;clear H4) | (refine (H7.out _).mono ?_;rintro e w' ⟨rfl,rfl⟩)))
        go_ret;exact ⟨⟨_,rfl⟩,Ct hC.out C3.out⟩
       | true=>
        cases a7 with
        | false=>
         go_wp2_with (first | (go_at_call 119;refine (H6.out _).mono ?_;rintro e w' ⟨rfl,rfl⟩) | (go_at_call 99;first | (refine (H4.out _).mono ?_;rintro e w' ⟨rfl,rfl⟩;clear H4) | (refine (H7.out _).mono ?_;rintro e w' ⟨rfl,rfl⟩)))
         go_ret;exact ⟨⟨_,rfl⟩,Ct hC.out C3.out⟩
        | true=>
         go_wp2_with (first | (go_at_call 119;refine (H6.out _).mono ?_;rintro e w' ⟨rfl,rfl⟩) | (go_at_call 99;first | (refine (H4.out _).mono ?_;rintro e w' ⟨rfl,rfl⟩;clear H4) | (refine (H7.out _).mono ?_;rintro e w' ⟨rfl,rfl⟩)))
         go_ret;exact ⟨⟨_,rfl⟩,Ct hC.out C3.out⟩
      | true=>
       go_wp2_with (first | (go_at_call 119;refine (H6.out _).mono ?_;rintro e w' ⟨rfl,rfl⟩) | (go_at_call 99;first | (refine (H4.out _).mono ?_;rintro e w' ⟨rfl,rfl⟩;clear H4) | (refine (H7.out _).mono ?_;rintro e w' ⟨rfl,rfl⟩)))
       go_ret;exact ⟨⟨_,rfl⟩,Ct hC.out C3.out⟩
     | true=>
      go_wp2_with (first | (go_at_call 119;refine (H6.out _).mono ?_;rintro e w' ⟨rfl,rfl⟩) | (go_at_call 99;first | (refine (H4.out _).mono ?_;rintro e w' ⟨rfl,rfl⟩;clear H4) | (refine (H7.out _).mono ?_;rintro e w' ⟨rfl,rfl⟩)))
      go_ret;exact ⟨⟨_,rfl⟩,Ct hC.out C3.out⟩
def setAll (w:World) (z:Nat):Nat->List Value->World
 | _,[]=>w
 | i,v::vs=>setAll (w.setCell ⟨z,i,none⟩ v) z (i+1) vs
theorem setAll_chg {w:World} {z:Nat}:∀ (vs:List Value) (i:Nat) (w0:World),Chg (fun k=>k=z) w0 w->Chg (fun k=>k=z) w0 (setAll w z i vs)
 | [],_,_,h=>h
 | v::vs,i,w0,h=>setAll_chg (w:=w.setCell ⟨z,i,none⟩ v) vs (i+1) w0 (h.setCell (p:=⟨z,i,none⟩) (.inl rfl) v)
theorem setAll_blk {z:Nat} {t:TypeId}:∀ (vs:List Value) (i:Nat) (w:World) (cs:Array Value),Blk w z t cs->i+vs.length<=cs.size->Blk (setAll w z i vs) z t ((cs.toList.take i++vs++cs.toList.drop (i+vs.length)).toArray)
 | [],i,w,cs,h,_=>by
  have:(cs.toList.take i++[]++cs.toList.drop (i+0)).toArray=cs:=by simp
  simpa [setAll] using h
 | v::vs,i,w,cs,h,hl=>by
  have hi:i < cs.size:=by simp at hl;omega
  have:=setAll_blk vs (i+1) (w.setCell ⟨z,i,none⟩ v) (cs.setIfInBounds i v) (h.set i v) (by simp at hl |-;omega);have e:((cs.setIfInBounds i v).toList.take (i+1)++vs++(cs.setIfInBounds i v).toList.drop (i+1+vs.length)).toArray=(cs.toList.take i++(v::vs)++cs.toList.drop (i+(v::vs).length)).toArray:=by
   congr 1
   rw[Array.toList_setIfInBounds,List.take_succ_eq_append_getElem (by simpa using hi),List.take_set_of_le (Nat.le_refl _),List.getElem_set_self,List.drop_set_of_lt (by omega)];simp[Nat.add_assoc,Nat.add_comm 1]
  rw[e] at this;exact this
theorem run_storeCells_blk {P:Program} {z:Nat} {t:TypeId}:∀ (vs:List Value) (i:Nat) (w:World) (cs:Array Value),Blk w z t cs->i+vs.length<=cs.size->(∀ v ∈ vs,v.oneCell'=true)->(storeCells ⟨z,0,none⟩ vs i).run P w=.ok () (setAll w z i vs)
 | [],i,w,cs,_,_,_=>by simp[storeCells,setAll,go_sem]
 | v::vs,i,w,cs,h,hl,h1=>by
  have hi:i < cs.size:=by simp at hl;omega
  have hc:=h.cell i;rw[Array.getElem?_eq_getElem hi] at hc;have hf:=h.frozen i;have ih:=run_storeCells_blk (P:=P) vs (i+1) (w.setCell ⟨z,i,none⟩ v) (cs.setIfInBounds i v) (h.set i v) (by simp at hl |-;omega) (fun u hu=>h1 u (List.mem_cons_of_mem _ hu));have hs:=run_store P w ⟨z,i,none⟩ v .plain (h1 v (List.mem_cons_self ..));have ha:(⟨z,0,none⟩:Addr).add i=⟨z,i,none⟩:=by rw[add_row,Nat.zero_add]
  simp[storeCells,setAll,go_sem,Result.andThen,ha,hs,hc,hf,ih]
theorem run_stA {P:Program} {a:Act} {w:World} {p x z n:Nat} {t:TypeId} {cs xs:Array Value} (hn:(P.info? t).map (·.size)=some n) (hp:(a.tmps[p]?).getD undef=.pointer (some ⟨z,0,none⟩)) (hx:(a.tmps[x]?).getD undef=.agg xs) (hxn:xs.size=n) (hcn:cs.size=n) (hb:Blk w z t cs) (h1:∀ v ∈ xs.toList,v.oneCell'=true):
  ∃ w',(∀ o:Oper,o.op=.store t (.tmp p) (.tmp x)->(execOp a.eval o).run P w=.ok .skip w')/\Blk w' z t xs/\Chg (fun k=>k=z) w w':=by
 obtain ⟨i,hi,hin⟩:=Option.map_eq_some_iff.1 hn;refine ⟨setAll w z 0 xs.toList,fun o h=>?_,?_,setAll_chg _ _ _ (Chg.refl _ _)⟩
 ·have hr:=run_storeCells_blk (P:=P) xs.toList 0 w cs hb (by simp;omega) h1;simp[execOp,h,hp,hx,go_sem,Result.andThen,storeVar,sizeOf,typeInfo,hi,hin,Value.cells,hxn,hr]
 ·have:=setAll_blk xs.toList 0 w cs hb (by simp;omega);have e:(cs.toList.take 0++xs.toList++cs.toList.drop (0+xs.toList.length)).toArray=xs:=by
   rw[List.drop_eq_nil_of_le (by simp;omega)];simp
  rw[e] at this;exact this
end
end Go.Proofs.YthohgagkjnbkbaaGreat
