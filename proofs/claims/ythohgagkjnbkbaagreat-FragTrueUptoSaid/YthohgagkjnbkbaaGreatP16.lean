/- FragTrue, part 16: FrGrp3 FrGrp4 FrEq. Each theorem says what a function does, or a plain fact, under its own premises alone. -/
import Derived.Test.YthohgagkjnbkbaaGreatP15
set_option maxRecDepth 100000
set_option maxHeartbeats 16000000
namespace Go.Proofs.YthohgagkjnbkbaaGreat
section
open Go.RowKit
theorem waits_any (w:World) (m:MC) (X:MX) (x y:Nat) (hX:XOK w m X) (hx:x < m.gu.length+m.mi.length) (hy:y < m.gu.length+m.mi.length):Calls Tryz.prog 48 #[.agg (mA m),.int .i64 x,.int .i64 y] w fun e w'=>(∃ b,e=.returned (.bool b))/\Chg (fun _=>False) w w':=by
 have hb:=Blk.new w 32 (mA m);have C0:=zI ((Chg.refl (fun _=>False) w).alloc (.cells (mA m) 32));have hX1:=hX.later C0.out;have hg:=hX.few.2.2.1;have hm:=hX.few.2.2.2.1;have hm0:=mcells hb;obtain ⟨w1,hw1⟩:∃ w1,w1=w.alloc (.cells (mA m) 32):=⟨_,rfl⟩;rw[<-hw1] at hb C0 hX1;have HM:=zI (fun (w':World) (h:Chg (fun _=>False) w1 w')=>mcells (hb.chg h (fun h=>h)));have HX:=zI (fun (w':World) (h:Chg (fun _=>False) w1 w')=>hX1.later h);have HS:=zI (fun (w':World) (h:Chg (fun _=>False) w1 w') (z:Nat) (hz:z < m.gu.length+m.mi.length)=>stage_any w' m z (hX1.later h).mo (by omega) hz);have HB:=zI (fun (w':World) (h:Chg (fun _=>False) w1 w') (i:Nm.Inst)=>by_any w' m X i y (hX1.later h) hy);have HC:=zI (cond_any w1 m X x hX1 hx);obtain ⟨cn,hcn⟩:∃ cn,cn=cnF X m.gu.length x:=⟨_,rfl⟩;rw[<-hcn] at HC;obtain ⟨st,hst⟩:∃ st,st=stF m x:=⟨_,rfl⟩;have HSx:=zI (fun (w':World) (h:Chg (fun _=>False) w1 w')=>HS.out w' h x hx);have HSy:=zI (fun (w':World) (h:Chg (fun _=>False) w1 w')=>HS.out w' h y hy);rw[<-hst] at HSx;obtain ⟨sy,hsy⟩:∃ sy,sy=stF m y:=⟨_,rfl⟩;rw[<-hsy] at HSy;have hsn:=zI hX1.stN;have hsf:=hX1.few.1;clear hb hX hX1 hcn hst hsy HS;obtain ⟨e0,e1,e2,e3,e4,e5,e6,e7,e8,e9⟩:=hm0;unfold mA at HC HB HSx HSy hw1 e0 e1 e2 e3 e4 e5 e6 e7 e8 e9 |-;go_enter Tryz.func48,Tryz.ntmps48;go_wp2_with (go_at_call 76;rw[<-hw1];refine HC.out.mono ?_;rintro e w2 ⟨⟨A,c,rfl,hl,hR⟩,hC2⟩;have C2:=zI hC2;have RA:=zI hR;clear hR hC2 HC hw1 e0 e1 e2 e3 e4 e5 e6 e7 e8 e9)
 go_loopw [8] (fun v wr=>∃ k:Nat,k<=cn.length/\v=.int .i64 k/\Hid (Chg (fun _=>False) w2 wr)) (fun v _=>cn.length - (intOf v).toNat)
 case atStart=>exact ⟨0,Nat.zero_le _,rfl,Chg.refl _ _⟩
 case round=>
  obtain ⟨k,hk,rfl,hC⟩:=hrel;have Cr:=zI (Ct C2.out hC.out);by_cases hlt:k < cn.length
  ·obtain ⟨i,hi⟩:∃ i,cn[k]?=some i:=⟨_,gG hlt⟩;obtain ⟨b0,o0,rfl,_,c0,c1,c2,c3,c4,c5,c6⟩:=ins_at (RA.out.later hC.out (fun _ h=>h.elim)) hi;have K0:=fun n:KW wr=>kept_cell c0 n
   have K1:=fun n:KW wr=>kept_cell c1 n
   have K2:=fun n:KW wr=>kept_cell c2 n
   have K3:=fun n:KW wr=>kept_cell c3 n
   have K4:=fun n:KW wr=>kept_cell c4 n
   have K5:=fun n:KW wr=>kept_cell c5 n
   have K6:=fun n:KW wr=>kept_cell c6 n
   have M0:=fun n:KW wr=>HM.out n.w (Ct Cr.out n.h)
   have F0:=fun n:KW wr=>(M0 n).1
   have F1:=fun n:KW wr=>(M0 n).2.1
   have F2:=fun n:KW wr=>(M0 n).2.2.1
   have F3:=fun n:KW wr=>(M0 n).2.2.2.1
   have F4:=fun n:KW wr=>(M0 n).2.2.2.2.1
   have F5:=fun n:KW wr=>(M0 n).2.2.2.2.2.1
   have F6:=fun n:KW wr=>(M0 n).2.2.2.2.2.2.1
   have F7:=fun n:KW wr=>(M0 n).2.2.2.2.2.2.2.1
   have F8:=fun n:KW wr=>(M0 n).2.2.2.2.2.2.2.2.1
   have F9:=fun n:KW wr=>(M0 n).2.2.2.2.2.2.2.2.2
   have HL:=zI (fun n:KW wr=>kept_call (HB.out n.w (Ct Cr.out n.h) i));unfold iA at HL;obtain ⟨b,hbb⟩:∃ b,b=byF m X i y:=⟨_,rfl⟩;rw[<-hbb] at HL;clear hbb M0 c0 c1 c2 c3 c4 c5 c6 hi;go_wp2_with fail
   refine wp_region_kept wr (Chg.refl _ _) (by kernel_rfl) (by kernel_rfl) ?_;repeat (go_big_quiet_step (with_reducible exact HL.out _))
   refine wpQuiet_nil ?_;rintro w4 ⟨n,rfl⟩;have C4:=zI (Ct hC.out n.h);obtain ⟨w5,hw5⟩:∃ w5,w5=n.w:=⟨_,rfl⟩;rw[<-hw5] at C4 |-;clear hw5 F0 F1 F2 F3 F4 F5 F6 F7 F8 F9 K0 K1 K2 K3 K4 K5 K6 HL;cases b with
   | true=>
    go_wp2
    go_ret;exact ⟨⟨_,rfl⟩,Ct (Ct C0.out C2.out) C4.out⟩
   | false=>
    go_wp2_with fail
    go_roundw
    case rel=>exact ⟨k+1,by omega,by go_num,C4⟩
    case measure=>(simp[intOf]<;>omega)
  ·obtain rfl:k=cn.length:=by omega
   have Cw:=zI (Ct C0.out Cr.out);obtain ⟨e0,e1,e2,e3,e4,e5,e6,e7,e8,e9⟩:=HM.out wr Cr.out;by_cases hyg:m.gu.length<=y
   ·have d1:decide ((m.gu.length:Int)<=(y:Int))=true:=by rw[dT];omega
    have d1N:decide (m.gu.length<=y)=true:=by simpa using hyg
    go_wp2
    go_ret;exact ⟨⟨_,rfl⟩,Cw.out⟩
   have d1:decide ((m.gu.length:Int)<=(y:Int))=false:=by rw[dF];omega
   have d1N:decide (m.gu.length<=y)=false:=by simpa using hyg
   by_cases hxg:m.gu.length<=x
   ·have d2:decide ((m.gu.length:Int)<=(x:Int))=true:=by rw[dT];omega
    have d2N:decide (m.gu.length<=x)=true:=by simpa using hxg
    have HX1:=zI (HSx.out wr Cr.out);clear hxg hyg;go_wp2_with (first
     | (go_at_call 78;refine HX1.out.mono ?_;rintro e w3 ⟨rfl,hC3⟩;have C3:=zI hC3;obtain ⟨k0,k1,k2,k3,k4,k5,k6,k7,k8,k9⟩:=HM.out w3 (Ct Cr.out hC3);clear HX1 hC3 e0 e1 e2 e3 e4 e5 e6 e7 e8 e9)
     | (go_at_call 78;refine (HSy.out w3 (Ct Cr.out C3.out)).mono ?_;rintro e w4 ⟨rfl,hC4⟩;have C4:=zI (Ct (Ct Cw.out C3.out) hC4);clear hC4 C3))
    go_ret;exact ⟨⟨_,rfl⟩,C4.out⟩
   have d2:decide ((m.gu.length:Int)<=(x:Int))=false:=by rw[dF];omega
   have d2N:decide (m.gu.length<=x)=false:=by simpa using hxg
   have HX1:=zI (HSx.out wr Cr.out);clear hxg hyg;go_wp2_with (go_at_call 78;refine HX1.out.mono ?_;rintro e w3 ⟨rfl,hC3⟩;have C3:=zI (Ct Cr.out hC3);obtain ⟨k0,k1,k2,k3,k4,k5,k6,k7,k8,k9⟩:=HM.out w3 C3.out;clear HX1 hC3 e0 e1 e2 e3 e4 e5 e6 e7 e8 e9)
   clear k0 k1 k2 k3 k4 k5 k6 k7 k8 k9;have M0:=fun n:KW w3=>HM.out n.w (Ct C3.out n.h)
   have F0:=fun n:KW w3=>(M0 n).1
   have F1:=fun n:KW w3=>(M0 n).2.1
   have F2:=fun n:KW w3=>(M0 n).2.2.1
   have F3:=fun n:KW w3=>(M0 n).2.2.2.1
   have F4:=fun n:KW w3=>(M0 n).2.2.2.2.1
   have F5:=fun n:KW w3=>(M0 n).2.2.2.2.2.1
   have F6:=fun n:KW w3=>(M0 n).2.2.2.2.2.2.1
   have F7:=fun n:KW w3=>(M0 n).2.2.2.2.2.2.2.1
   have F8:=fun n:KW w3=>(M0 n).2.2.2.2.2.2.2.2.1
   have F9:=fun n:KW w3=>(M0 n).2.2.2.2.2.2.2.2.2
   have HL:=zI (fun n:KW w3=>kept_call (HSy.out n.w (Ct C3.out n.h)));clear M0;rw[hsn.out] at HL;simp only[hsn.out] at F4;by_cases h0:0<=st
   ·obtain ⟨z,rfl⟩:∃ z:Nat,st=z:=⟨st.toNat,by omega⟩;have q0:decide ((0:Int)<=(z:Int))=true:=by simp
    by_cases hz:z < X.st.length
    ·have q1:decide ((z:Int) < (X.st.length:Int))=true:=by rw[dT];omega
     obtain ⟨p,hp⟩:∃ p,X.st[z]?=some p:=⟨_,gG hz⟩;obtain ⟨b1,o1,hA,_,hc⟩:=row_at (f:=stC) (C:=2) (fun _=>rfl) (by omega) (HX.out w3 C3.out).st hp;have c1:=hc 1 _ rfl;have K1:=fun n:KW w3=>kept_cell c1 n
     simp only[hA] at F4;rw[hA] at HL;clear hc c1 hp hA h0;refine wp_region_kept w3 (Chg.refl _ _) (by kernel_rfl) (by kernel_rfl) ?_;repeat (go_big_quiet_step (with_reducible exact HL.out _))
     refine wpQuiet_nil ?_;rintro w4 ⟨n,rfl⟩;have C4:=zI (Ct (Ct C0.out C3.out) n.h);obtain ⟨w5,hw5⟩:∃ w5,w5=n.w:=⟨_,rfl⟩;rw[<-hw5] at C4 |-;clear hw5 F0 F1 F2 F3 F4 F5 F6 F7 F8 F9 K1 HL;go_wp2
     go_ret;exact ⟨⟨_,rfl⟩,C4.out⟩
    ·have q1:decide ((z:Int) < (X.st.length:Int))=false:=by rw[dF];omega
     clear h0;refine wp_region_kept w3 (Chg.refl _ _) (by kernel_rfl) (by kernel_rfl) ?_;repeat (go_big_quiet_step (fail))
     refine wpQuiet_nil ?_;rintro w4 ⟨n,rfl⟩;have C4:=zI (Ct (Ct C0.out C3.out) n.h);obtain ⟨w5,hw5⟩:∃ w5,w5=n.w:=⟨_,rfl⟩;rw[<-hw5] at C4 |-;clear hw5 F0 F1 F2 F3 F4 F5 F6 F7 F8 F9 HL;go_wp2
     go_ret;exact ⟨⟨_,rfl⟩,C4.out⟩
   ·have q0:decide ((0:Int)<=st)=false:=by rw[dF];exact h0
    clear h0;refine wp_region_kept w3 (Chg.refl _ _) (by kernel_rfl) (by kernel_rfl) ?_;repeat (go_big_quiet_step (fail))
    refine wpQuiet_nil ?_;rintro w4 ⟨n,rfl⟩;have C4:=zI (Ct (Ct C0.out C3.out) n.h);obtain ⟨w5,hw5⟩:∃ w5,w5=n.w:=⟨_,rfl⟩;rw[<-hw5] at C4 |-;clear hw5 F0 F1 F2 F3 F4 F5 F6 F7 F8 F9 HL;go_wp2
    go_ret;exact ⟨⟨_,rfl⟩,C4.out⟩
theorem at12_any (w:World) (m:MC) (y:Nat) (h1:m.gu.length<=1000) (h2:y<=100000):Calls Tryz.prog 49 #[.agg (mA m),.int .i64 y] w fun e w'=>(∃ (b:Bool) (n:Int),e=.returned (.agg #[.bool b,.int .i64 n])/\inR n)/\Chg (fun _=>False) w w':=by
 have hb:=Blk.new w 32 (mA m);have C0:=zI ((Chg.refl (fun _=>False) w).alloc (.cells (mA m) 32));obtain ⟨w1,hw1⟩:∃ w1,w1=w.alloc (.cells (mA m) 32):=⟨_,rfl⟩;have hm0:=mcells hb;unfold mA at hb C0 hm0 hw1 |-;rw[<-hw1] at C0;obtain ⟨e0,e1,e2,e3,e4,e5,e6,e7,e8,e9⟩:=hm0;replace e6:=kal (o:=.cells #[.bool false,.int .i64 0] 130) e6;clear hb;by_cases hy:y < m.gu.length
 ·have d1:decide ((y:Int) < (m.gu.length:Int))=true:=by rw[dT];omega
  have d1N:decide (y < m.gu.length)=true:=by simpa using hy
  go_enter Tryz.func49,Tryz.ntmps49;go_wp2
  exact bodyPost_ret (results_cell_row rfl _ _ _ _ _ _ _ rfl (blk_new2 w _ 130 _) Tryz.underlying130 rfl (by kernel_rfl)) rfl ⟨⟨_,_,rfl,by unfold inR;omega⟩,chg2 w _ _⟩
 ·have d1:decide ((y:Int) < (m.gu.length:Int))=false:=by rw[dF];omega
  have d1N:decide (y < m.gu.length)=false:=by simpa using hy
  go_enter Tryz.func49,Tryz.ntmps49;go_wp2
  exact bodyPost_ret (results_cell_row rfl _ _ _ _ _ _ _ rfl (blk_new2 w _ 130 _) Tryz.underlying130 rfl (by kernel_rfl)) rfl ⟨⟨_,_,rfl,by unfold inR;omega⟩,chg2 w _ _⟩
def lenOf:Value->Nat
 | .slice _ n _=>n
 | _=>0
theorem sen_info:(Tryz.prog.info? 130).map (fun i=>(i.zero,i.size,i.bytes))=some (some (.agg #[.bool false,.int .i64 0]),2,16):=by kernel_rfl
theorem orC_len (x:Bool × Int):(orC x).length=2:=rfl
theorem app2 {w0 wr w':World} {v:Value} {t:TypeId} {n sz:Nat} {xs:List Value} {B:Nat} (ho:wr.ownsRow B t sz v n xs) (hB:w0.heap.size<=B) (hC:Chg (fun _=>False) w0 wr) (o:Obj) (hg:(wr.alloc o).grownBy w' v.ownBlock):Chg (fun _=>False) w0 w':=
 Chg.trans hC (Chg.grown (S:=fun k=>v.ownBlock=some k) ((Chg.refl _ wr).alloc o) hg (fun k hk=>.inl hk)) (fun i hi e=>by have:=(ho.lt i e).1;omega)
def SeR (w0:World) (l:List (Bool × Int)) (v:Value) (w':World):Prop:=∃ A c,v=.slice A l.length c/\Rd w' w'.heap.size A (l.flatMap orC)/\Chg (fun _=>False) w0 w'
theorem order_any (w:World) (m:MC) (X:MX) (hX:XOK w m X):Calls Tryz.prog 23 #[.agg (mA m)] w fun e w'=>∃ (l:List (Bool × Int)) (v:Value) (er:Int),e=.returned (.tuple #[v,.int .i64 er])/\l.length<=200/\(∀ z ∈ l,inR z.2)/\SeR w l v w':=by
 have hb:=Blk.new w 32 (mA m);have C0:=zI ((Chg.refl (fun _=>False) w).alloc (.cells (mA m) 32));have hX1:=hX.later C0.out;have hg:=hX.few.2.2.1;have hm:=hX.few.2.2.2.1;have hm0:=mcells hb;obtain ⟨N,hN⟩:∃ N,N=m.gu.length+m.mi.length:=⟨_,rfl⟩;have hNI:(m.gu.length:Int)+m.mi.length=(N:Int):=by omega
 have hN2:N<=200:=by omega
 have hmk:=run_make_row' (P:=Tryz.prog) 47 4 (.bool false) 1 Tryz.underlying47 bool_info rfl .i64 .i64 N (by omega) (by omega);rw[bA_made] at hmk;obtain ⟨w1,hw1⟩:∃ w1,w1=w.alloc (.cells (mA m) 32):=⟨_,rfl⟩;rw[<-hw1] at hb C0 hX1;have HM:=zI (fun (w':World) (h:Chg (fun _=>False) w1 w')=>mcells (hb.chg h (fun h=>h)));have HW:=zI (fun (w':World) (h:Chg (fun _=>False) w1 w') (x y:Nat) (hx:x < N) (hy:y < N)=>waits_any w' m X x y (hX1.later h) (by rw[<-hN];exact hx) (by rw[<-hN];exact hy));have HA:=zI (fun (w':World) (y:Nat) (hy:y<=100000)=>at12_any w' m y (by omega) hy);have HC:=zI (count_any w1 m (by omega) (by omega));rw[hNI] at HC;obtain ⟨i5,hi5,z50,z51,z52⟩:=info_3 sen_info;clear hb hX hX1 hN hNI;obtain ⟨e0,e1,e2,e3,e4,e5,e6,e7,e8,e9⟩:=hm0;unfold mA at HW HA HC hw1 e0 e1 e2 e3 e4 e5 e6 e7 e8 e9 |-;go_enter Tryz.func23,Tryz.ntmps23;go_wp2_with (go_at_call 47;rw[<-hw1];refine HC.out.mono ?_;rintro e w2 ⟨rfl,hC2⟩;have C2:=zI hC2;clear hC2 HC hw1 e0 e1 e2 e3 e4 e5 e6 e7 e8 e9)
 clear hmk;obtain ⟨w3,hw3⟩:∃ w3,w3=w2.alloc (.cells (bA (fun _=>false) N) 4):=⟨_,rfl⟩;obtain ⟨g,hgg⟩:∃ g,g=w2.heap.size:=⟨_,rfl⟩;have hB1:Hid (Blk w3 g 4 (bA (fun _=>false) N)):=by rw[hw3,hgg];exact Blk.new w2 4 _
 have C3:Hid (Chg (fun _=>False) w1 w3):=by rw[hw3];exact C2.out.alloc _
 have hg3:g < w3.heap.size:=hB1.out.lt;have hg1:w1.heap.size<=g:=by rw[hgg];exact C2.out.size
 rw[<-hw3,<-hgg];clear hw3 hgg;go_loopw [6,7,8,9,10] (fun v _ _ _ _ wr=>∃ (k:Nat) (l:List (Bool × Int)) (h:Nat->Bool),k<=N/\Hid (l.length=k)/\Hid (∀ z ∈ l,inR z.2)/\Hid (wr.ownsRow w3.heap.size 130 2 v k (l.flatMap orC))/\Hid (Blk wr g 4 (bA h N))/\Hid (Chg (fun _=>False) w1 wr)/\w3.heap.size<=wr.heap.size) (fun v _ _ _ _ _=>N - lenOf v)
 case atStart=>exact ⟨0,[],_,Nat.zero_le _,rfl,zI (by simp),zI (World.ownsRow_nil _ _ _ _),hB1,C3,Nat.le_refl _⟩
 case round=>
  rename World=>wo
  obtain ⟨k,l,h,hk,hl,hI,hO,hB,hC,hsz⟩:=hrel;obtain ⟨A,cap,rfl,hqc,hcm⟩:=own_slice hO.out;by_cases hlt:k < N
  ·go_wp2_with fail
   go_loopw [8,7,9,10] (fun x z _ _ wr=>∃ (i:Nat) (y:Int),i<=N/\x=.int .i64 i/\z=.int .i64 y/\(y=-1\/(0<=y/\y < N))/\Hid (Chg (fun _=>False) wo wr)) (fun x _ _ _ _=>N - (intOf x).toNat)
   case atStart=>exact ⟨0,-1,Nat.zero_le _,rfl,rfl,.inl rfl,Chg.refl _ _⟩
   case round=>
    rename World=>wp
    obtain ⟨i,y,hi,rfl,rfl,hy,hCp⟩:=hrel;by_cases hy0:y < 0
    ·have dy:decide (y < 0)=true:=by simpa using hy0
     by_cases hin:i < N
     ·have q0:=bA_cell (hB.out.chg hCp.out (fun h=>h)) hin;obtain ⟨b0,hb0⟩:∃ b0,b0=h i:=⟨_,rfl⟩;rw[<-hb0] at q0;replace hy:=zI hy;clear hb0 hy0;go_wp2_with fail
      clear q0;go_loopw [10,9] (fun c fr wk=>∃ (q:Nat) (b:Bool),q<=N/\c=.int .i64 q/\fr=.bool b/\Hid (Chg (fun _=>False) wo wk)) (fun c _ _=>N - (intOf c).toNat)
      case atStart=>exact ⟨0,_,Nat.zero_le _,rfl,rfl,hCp⟩
      case round=>
       obtain ⟨q,b,hq,rfl,rfl,hCq⟩:=hrel;by_cases hql:q < N
       ·cases b with
        | false=>
         go_wp2_with fail
         go_roundw
         case rel=>exact ⟨q+1,false,by omega,by go_num,rfl,hCq⟩
         case measure=>(simp[intOf]<;>omega)
        | true=>
         have q1:=bA_cell (hB.out.chg hCq.out (fun h=>h)) hql;obtain ⟨b1,hb1⟩:∃ b1,b1=h q:=⟨_,rfl⟩;rw[<-hb1] at q1;clear hb1;cases b1 with
         | true=>
          go_wp2_with fail
          go_roundw
          case rel=>exact ⟨q+1,true,by omega,by go_num,rfl,hCq⟩
          case measure=>(simp[intOf]<;>omega)
         | false=>
          obtain ⟨e0,e1,e2,e3,e4,e5,e6,e7,e8,e9⟩:=HM.out wr (Ct hC.out hCq.out);have HWx:=zI (HW.out wr (Ct hC.out hCq.out) i q hin hql);go_wp2_with (go_at_call 48;refine HWx.out.mono ?_;rintro e w9 ⟨⟨b9,rfl⟩,hC9⟩;have C9:=zI (Ct hCq.out hC9);clear hC9 HWx e0 e1 e2 e3 e4 e5 e6 e7 e8 e9)
          go_roundw
          case rel=>exact ⟨q+1,!b9,by omega,by go_num,rfl,C9⟩
          case measure=>(simp[intOf]<;>omega)
       ·obtain rfl:N=q:=by omega
        cases b with
        | true=>
         go_wp2_with fail
         go_roundw
         case rel=>exact ⟨i+1,i,by omega,by go_num,rfl,.inr ⟨by omega,by omega⟩,hCq⟩
         case measure=>(simp[intOf]<;>omega)
        | false=>
         go_wp2_with fail
         go_roundw
         case rel=>exact ⟨i+1,y,by omega,by go_num,rfl,hy.out,hCq⟩
         case measure=>(simp[intOf]<;>omega)
     ·obtain rfl:N=i:=by omega
      have Cz:=zI (Ct (Ct C0.out hC.out) hCp.out);clear hy hy0;go_wp2
      go_ret2
      exact ⟨[],_,_,rfl,by simp,by simp,none,0,rfl,fun h=>by simp at h,Cz.out⟩
    ·obtain ⟨z,rfl⟩:∃ z:Nat,y=z:=⟨y.toNat,by omega⟩;have hz:z < N:=by omega
     have dy:decide ((z:Int) < 0)=false:=by simp
     have hBz:=hB.out.chg hCp.out (fun h=>h);have qf:=hBz.frozen z;have q0:=bA_cell hBz hz;have hOz:=own_chg hO.out hCp.out (fun _ _ h=>h);have hBn:Hid (Blk (wp.setCell ⟨g,z,none⟩ (.bool true)) g 4 (bA (upd h z true) N)):=by have:=hBz.set z (.bool true);rw[bA_set] at this;exact this
     have hnb:∀ gg,Value.ownBlock (.slice A k cap)=some gg->gg ≠ g:=fun gg hgg e=>by have:=(hO.out.lt gg hgg).1;omega
     have hOn:Hid ((wp.setCell ⟨g,z,none⟩ (.bool true)).ownsRow w3.heap.size 130 2 (.slice A k cap) k (l.flatMap orC)):=own_set (p:=⟨g,z,none⟩) hOz (fun e=>hnb g e rfl) _;have Cn:Hid (Chg (fun _=>False) w1 (wp.setCell ⟨g,z,none⟩ (.bool true))):=(Ct hC.out hCp.out).setCell (.inr hg1) _;obtain ⟨e0,e1,e2,e3,e4,e5,e6,e7,e8,e9⟩:=HM.out _ Cn.out;have HAz:=zI (HA.out (wp.setCell ⟨g,z,none⟩ (.bool true)) z (by omega));have hszn:Hid (w3.heap.size<=(wp.setCell ⟨g,z,none⟩ (.bool true)).heap.size):=by show _<=_;have:=hCp.out.size;simp[World.setCell];omega
     clear hy hy0 hBz hOz hqc hcm;by_cases hin:i < N
     all_goals
      go_wp2_with (first
       | (go_at_call 49;refine HAz.out.mono ?_;rintro e w9 ⟨⟨sb,sn,rfl,hsn⟩,hC9⟩;replace hsn:=zI hsn;have B9:=zI (hBn.out.chg hC9 (fun h=>h));have O9:=zI (own_chg hOn.out hC9 (fun _ _ h=>h));have C9:=zI (Ct Cn.out hC9);have s9:w3.heap.size<=w9.heap.size:=Nat.le_trans hszn.out hC9.size;clear hC9 HAz hBn hOn Cn hszn e0 e1 e2 e3 e4 e5 e6 e7 e8 e9 q0 qf)
       | (at_builtin;refine wpList_append_lies _ rfl (.tmp 59) (.tmp 63) 30 rfl w3.heap.size 130 i5 _ 2 16 Tryz.underlying30 hi5 z50 z51 z52 rfl (by omega) (.slice A k cap) k (l.flatMap orC) rfl (by exact O9.out.alloc _) ⟨w9.heap.size,0,none⟩ 1 1 (orC (sb,sn)) rfl rfl (by exact all_new (Blk.new w9 130 #[.bool sb,.int .i64 sn])) (by intro u hu;simp[orC] at hu;rcases hu with rfl | rfl<;>rfl) (by omega) (by unfold maxLen;omega) (by omega) (by simp;omega) (w9.heap.size+1) (by simp) ?_;intro gq cq w10 hown9 hg9 hat9 hlt9;have HO9:=zI hown9;have HC9:=zI (app2 O9.out (by have:=C3.out.size;omega) C9.out _ hg9);have HB9:=zI ((B9.out.alloc _).grown hg9 (fun e=>hnb g e.symm rfl));have hs10:=Nat.le_trans s9 (Nat.le_trans (by simp) hg9.size);clear hown9 hg9 hat9 hlt9 s9))
      go_roundw
      case rel=>exact ⟨k+1,l++[(sb,sn)],_,by omega,by show _=_;rw[List.length_append,hl.out];rfl,zI (fun z hz=>(List.mem_append.1 hz).elim (hI.out z) (fun h=>by rw[List.mem_singleton.1 h];exact hsn.out)),by show World.ownsRow _ _ _ _ _ _ _;rw[List.flatMap_append];exact HO9.out,HB9,HC9,hs10⟩
      case measure=>(simp[lenOf]<;>omega)
  ·obtain rfl:N=k:=by omega
   have hR:=zI (own_rdN hO.out);have Cz:=zI (Ct C0.out hC.out);clear hqc hcm hO hB;go_wp2
   go_ret2
   exact ⟨l,_,_,rfl,by rw[hl.out];exact hN2,hI.out,A,cap,by rw[hl.out];rfl,hR.out,Cz.out⟩
theorem wf_of {n:Int} (h:inR n):(Lit.int .i64 n).wf=true:=by
 unfold inR at h;simp[Lit.wf,IntKind.min,IntKind.max,IntKind.signed,IntKind.bits];omega
theorem n3:Tryz.prog.cellsOf 3=1:=by kernel_rfl
theorem n4:Tryz.prog.cellsOf 4=1:=by kernel_rfl
theorem n130:Tryz.prog.cellsOf 130=2:=by kernel_rfl
theorem n194:Tryz.prog.cellsOf 194=2:=by kernel_rfl
theorem lits3 (d:Nat) {n:Int} (h:inR n):Tryz.prog.keyLits (d+1) 3 [.int .i64 n]=some [.int .i64 n]:=by
 simp[Program.keyLits,Tryz.underlying3,wf_of h]
theorem lits4 (d:Nat) (b:Bool):Tryz.prog.keyLits (d+1) 4 [.bool b]=some [.bool b]:=by
 simp[Program.keyLits,Tryz.underlying4]
theorem lits_struct {P:Program} {t:TypeId} {fs:Array Field} (h:P.underlying t=some (.struct fs)) (d:Nat) (cs:List Value):P.keyLits (d+1) t cs=if cs.length=P.cellsOf t/\fs.all (·.name != "_")=true then (fs.toList.mapM fun f=>P.keyLits d f.type ((cs.drop f.offset).take (P.cellsOf f.type))).map List.flatten else none:=by
 conv=>lhs;unfold Program.keyLits
 rw[h]
theorem types_size:Tryz.prog.types.size+1=100+(Tryz.prog.types.size - 101)+1+1:=by
 have h:101<=Tryz.prog.types.size:=of_decide_eq_true (by kernel_rfl);omega
theorem lits194 (d:Nat) {a b:Int} (ha:inR a) (hb:inR b):Tryz.prog.keyLits (d+1+1) 194 [.int .i64 a,.int .i64 b]=some [.int .i64 a,.int .i64 b]:=by
 rw[lits_struct Tryz.underlying194];simp[n194,n3,lits3 d ha,lits3 d hb]
theorem lits130 (d:Nat) (a:Bool) {b:Int} (hb:inR b):Tryz.prog.keyLits (d+1+1) 130 [.bool a,.int .i64 b]=some [.bool a,.int .i64 b]:=by
 rw[lits_struct Tryz.underlying130];simp[n130,n3,n4,lits3 d hb,lits4 d a]
theorem cls_key {x:Int × Int} (h:inR x.1/\inR x.2):∃ l,keyOf Tryz.prog 194 (.agg #[.int .i64 x.1,.int .i64 x.2])=some l:=by
 have hk:Tryz.prog.keyType 194=true:=by kernel_rfl
 have hf:(Value.agg #[.int .i64 x.1,.int .i64 x.2]).formed Tryz.prog 194=true:=by simp[Value.formed,Tryz.underlying194,n194]
 unfold keyOf;rw[Tryz.underlying194];simp only[hk,hf,Bool.and_self,if_true];have hl:Tryz.prog.keyLits (Tryz.prog.types.size+1) 194 (Value.agg #[.int .i64 x.1,.int .i64 x.2]).cells.toList=some [.int .i64 x.1,.int .i64 x.2]:=by
  rw[types_size];exact lits194 _ h.1 h.2
 rw[hl];exact ⟨_,rfl⟩
theorem sen_key {b:Bool} {n:Int} (h:inR n):∃ l,keyOf Tryz.prog 130 (.agg #[.bool b,.int .i64 n])=some l:=by
 have hk:Tryz.prog.keyType 130=true:=by kernel_rfl
 have hf:(Value.agg #[.bool b,.int .i64 n]).formed Tryz.prog 130=true:=by simp[Value.formed,Tryz.underlying130,n130]
 unfold keyOf;rw[Tryz.underlying130];simp only[hk,hf,Bool.and_self,if_true];have hl:Tryz.prog.keyLits (Tryz.prog.types.size+1) 130 (Value.agg #[.bool b,.int .i64 n]).cells.toList=some [.bool b,.int .i64 n]:=by
  rw[types_size];exact lits130 _ b h
 rw[hl];exact ⟨_,rfl⟩
theorem laidAll:laidOutB Tryz.prog=true:=by kernel_rfl
theorem cls_inj {x y:Value} {l:Lit} (h1:keyOf Tryz.prog 194 x=some l) (h2:keyOf Tryz.prog 194 y=some l):x=y:=
 (deep_law_laid laidAll (m:=100) (by omega) (of_decide_eq_true (by kernel_rfl)) (by kernel_rfl) (by rw[Tryz.underlying194])).inj h1 h2
theorem sen_inj {x y:Value} {l:Lit} (h1:keyOf Tryz.prog 130 x=some l) (h2:keyOf Tryz.prog 130 y=some l):x=y:=
 (deep_law_laid laidAll (m:=100) (by omega) (of_decide_eq_true (by kernel_rfl)) (by kernel_rfl) (by rw[Tryz.underlying130])).inj h1 h2
theorem eq_cls {x y:Int × Int} (hx:inR x.1/\inR x.2) (hy:inR y.1/\inR y.2) (w:World):(Op.equal 194 (.agg #[.int .i64 x.1,.int .i64 x.2]) (.agg #[.int .i64 y.1,.int .i64 y.2])).run Tryz.prog w=.ok (decide (x=y)) w:=by
 obtain ⟨l1,h1⟩:=cls_key hx;obtain ⟨l2,h2⟩:=cls_key hy;obtain ⟨r,h,hr⟩:=run_equal_deep (P:=Tryz.prog) w (m:=100) (k:=194) (by omega) (by kernel_rfl) (by rw[Tryz.underlying194]) h1 h2;have:decide (x=y)=r:=by
  cases r with
  | false=>
   rw[dF];intro e;subst e;rw[h1] at h2;injection h2 with h2;exact absurd (hr.2 h2) (by simp)
  | true=>
   rw[dT];have e:=hr.1 rfl;subst e;have:=cls_inj h1 h2;obtain ⟨a,b⟩:=x;obtain ⟨c,d⟩:=y;simp at this;simp[this]
 rw[h,this]
theorem eq_sen {x y:Bool × Int} (hx:inR x.2) (hy:inR y.2) (w:World):(Op.equal 130 (.agg #[.bool x.1,.int .i64 x.2]) (.agg #[.bool y.1,.int .i64 y.2])).run Tryz.prog w=.ok (decide (x=y)) w:=by
 obtain ⟨l1,h1⟩:=sen_key (b:=x.1) hx;obtain ⟨l2,h2⟩:=sen_key (b:=y.1) hy;obtain ⟨r,h,hr⟩:=run_equal_deep (P:=Tryz.prog) w (m:=100) (k:=130) (by omega) (by kernel_rfl) (by rw[Tryz.underlying130]) h1 h2;have:decide (x=y)=r:=by
  cases r with
  | false=>
   rw[dF];intro e;subst e;rw[h1] at h2;injection h2 with h2;exact absurd (hr.2 h2) (by simp)
  | true=>
   rw[dT];have e:=hr.1 rfl;subst e;have:=sen_inj h1 h2;obtain ⟨a,b⟩:=x;obtain ⟨c,d⟩:=y;simp at this;simp[this]
 rw[h,this]
theorem quiet_neq130 {ops:Array Oper} {C:World->Prop} {Q:Act->Prop} {a:Act} {o:Oper} {rest:List Oper} {x y:Operand} {yt:TypeId} {u v:Array Value} {r:Bool} (hr:∀ w,(Op.equal 130 (.agg u) (.agg v)).run Tryz.prog w=.ok r w) (hg:o.guard=none) (ho:o.op=.binOp .neq 130 x y yt) (hx:a.eval x=.agg u) (hy:a.eval y=.agg v)
  (h:wpQuiet Tryz.prog ops C Q rest (a.put o.dst (.bool (!r)))):wpQuiet Tryz.prog ops C Q (o::rest) a:=by
 refine wpQuiet_step fun K hK=>?_
 have hw:Region.wanted o (yielded ops a.tmps)=true:=by simp[Region.wanted,hg]
 rw[if_pos hw];refine ⟨.bool (!r),fun w _=>?_,hK _ h⟩;unfold Oper.quietAt;have he:(execOp a.eval o).run Tryz.prog w=.ok (.value (.bool (!r))) w:=by
  simp[execOp,ho,hx,hy,eqGuard,binOp,hr w,Result.andThen]
 rw[he];exact ⟨rfl,rfl⟩
theorem quiet_neq194 {ops:Array Oper} {C:World->Prop} {Q:Act->Prop} {a:Act} {o:Oper} {rest:List Oper} {x y:Operand} {yt:TypeId} {u v:Array Value} {r:Bool} (hr:∀ w,(Op.equal 194 (.agg u) (.agg v)).run Tryz.prog w=.ok r w) (hg:o.guard=none) (ho:o.op=.binOp .neq 194 x y yt) (hx:a.eval x=.agg u) (hy:a.eval y=.agg v)
  (h:wpQuiet Tryz.prog ops C Q rest (a.put o.dst (.bool (!r)))):wpQuiet Tryz.prog ops C Q (o::rest) a:=by
 refine wpQuiet_step fun K hK=>?_
 have hw:Region.wanted o (yielded ops a.tmps)=true:=by simp[Region.wanted,hg]
 rw[if_pos hw];refine ⟨.bool (!r),fun w _=>?_,hK _ h⟩;unfold Oper.quietAt;have he:(execOp a.eval o).run Tryz.prog w=.ok (.value (.bool (!r))) w:=by
  simp[execOp,ho,hx,hy,eqGuard,binOp,hr w,Result.andThen]
 rw[he];exact ⟨rfl,rfl⟩
end
end Go.Proofs.YthohgagkjnbkbaaGreat
