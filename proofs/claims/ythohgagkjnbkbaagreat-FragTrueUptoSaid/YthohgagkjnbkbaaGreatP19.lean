/- FragTrue, part 19: FrCheck11. Each theorem says what a function does, or a plain fact, under its own premises alone. -/
import Derived.Test.YthohgagkjnbkbaaGreatP18
set_option maxRecDepth 100000
set_option maxHeartbeats 16000000
namespace Go.Proofs.YthohgagkjnbkbaaGreat
section
open Go.RowKit
theorem check11_any (w:World) (m:MC) (A:Option Addr) (c:Nat) (f:List Nm.Inst) (q:Bool) (hl:f.length<=4000000) (hr:Rd w w.heap.size A (f.flatMap instV7)):
  Calls Tryz.prog 45 #[.agg (mA m),.slice A f.length c,.bool q] w fun e w'=>(∃ b,e=.returned (.bool b)/\(b=true->f.length<=64))/\Chg (fun _=>False) w w':=by
 have hb:=Blk.new w 32 (mA m);have C0:=zI ((Chg.refl (fun _=>False) w).alloc (.cells (mA m) 32));obtain ⟨w1,hw1⟩:∃ w1,w1=w.alloc (.cells (mA m) 32):=⟨_,rfl⟩;rw[<-hw1] at hb C0;have HA:=zI (fun (w':World) (h:Chg (fun _=>False) w1 w')=>mcells (hb.chg h (fun h=>h)));have HR:=zI (hr.later C0.out (fun _ h=>h.elim));clear hb hr;obtain ⟨i70,hi70,hz0,hz1,hz2⟩:=info_3 item70;unfold mA at hw1 |-;go_enter Tryz.func45,Tryz.ntmps45;go_wp2_with fail
 rw[<-hw1];clear hw1;go_loopw [8,7] (fun i v wr=>∃ j:Nat,j<=f.length/\j<=70/\i=.int .i64 j/\Hid (Items w1 wr f j v)) (fun i _ _=>70 - (intOf i).toNat)
 case atStart=>exact ⟨0,Nat.zero_le _,Nat.zero_le _,rfl,Items.start w1 f⟩
 case round=>
  obtain ⟨j,hj,hj70,rfl,hM⟩:=hrel;by_cases hmore:j < f.length/\j < 70
  ·obtain ⟨hlt,hl7⟩:=hmore;have d1:decide ((j:Int) < (f.length:Int))=true:=by rw[dT];omega
   have d2:decide ((j:Int) < 70)=true:=by rw[dT];omega
   obtain ⟨x,hx⟩:∃ x,f[j]?=some x:=⟨_,gG hlt⟩;obtain ⟨xb,o,hA,hxb,c0,c1,c2,c3,c4,c5,c6⟩:=ins_at (HR.out.chg hM.out.chg (Nat.le_refl _) (fun _ h=>h.elim)) hx;subst hA;have HX:=zI hx;have hsz:=hM.out.chg.size;clear hx c1 c2 c3 c4 c5 c6;go_wp2_with (at_builtin;refine wpList_append_lies _ rfl (.tmp 21) (.tmp 28) 60 rfl w1.heap.size 110 i70 _ 9 104 Tryz.underlying60 hi70 hz0 hz1 hz2 rfl (by omega) u7 j (cellsI (itemsUp f j)) rfl (by exact World.ownsRow.alloc hM.out.own _) ⟨wr.heap.size,0,none⟩ 1 1 (itemC (toItem x)) rfl rfl (by exact all_new (Blk.new wr 110 (itemA (toItem x)))) (by intro u hu;rw[itemC_to] at hu;simp at hu;rcases hu with rfl | rfl | rfl | rfl | rfl | rfl | rfl | rfl | rfl<;>rfl) (by omega) (by unfold maxLen;omega) (by omega) (by simp;omega) (wr.heap.size+1) (by simp) ?_;intro g cap w3 hown3 hg3 hat3 hlt3;have HI3:=zI (hM.out.more HX.out ((Chg.refl _ wr).alloc _) hown3 hg3);clear hown3 hg3 hat3 hlt3)
   clear c0 hsz;go_roundw
   case rel=>exact ⟨j+1,by omega,by omega,by go_num,HI3⟩
   case measure=>(simp[intOf]<;>omega)
  ·obtain ⟨A5,cap5,h5,_,_⟩:=own_slice hM.out.own;have hown:=hM.out.own;rw[h5] at hown;have HO:=own_rdN hown;have HC:=zI hM.out.chg;have hln:(itemsUp f j).length=j:=itemsUp_len f j hj;have HK:=zI (refCheck_any' wr A5 cap5 (itemsUp f j) (by rw[hln];unfold maxLen;omega) HO);rw[hln] at HK;obtain ⟨k,hk⟩:∃ k,k=Tr.check (sg (itemsUp f j)) j:=⟨_,rfl⟩;have hok:Hid (k=0->f.length<=64):=fun h0=>by
    have h1:=(Tr.check_zero.1 (hk.symm.trans h0)).2.1;omega
   rw[<-hk] at HK;clear hk;rw[h5];by_cases h0:k=0
   ·have hlen:=zI (hok.out h0);have dk:(k !=0)=false:=by simp[h0]
    clear h0 hok hown hM h5 HO;by_cases hlt:j < f.length
    ·have d1:decide ((j:Int) < (f.length:Int))=true:=by rw[dT];omega
     have d2:decide ((j:Int) < 70)=false:=by rw[dF];omega
     clear hmore;go_wp2_with (go_at_call 31;refine HK.out.mono ?_;rintro e w' ⟨rfl,rfl⟩;clear HK)
     clear hlt d1;go_loopw [9,10] (fun x _ wr=>∃ i:Nat,i<=f.length/\x=.int .i64 i/\Hid (Chg (fun _=>False) w1 wr)) (fun x _ _=>f.length - (intOf x).toNat)
     case atStart=>exact ⟨0,Nat.zero_le _,rfl,HC⟩
     case round=>
      obtain ⟨i,hi,rfl,Cr⟩:=hrel;by_cases hlt:i < f.length
      ·obtain ⟨x,hx⟩:∃ x,f[i]?=some x:=⟨_,gG hlt⟩;obtain ⟨xb,o,hA0,_,c0,c1,c2,c3,c4,c5,c6⟩:=ins_at (HR.out.later Cr.out (fun _ h=>h.elim)) hx;subst hA0;obtain ⟨e0,e1,e2,e3,e4,e5,e6,e7,e8,e9⟩:=HA.out wr Cr.out;have M0:=fun n:KW wr=>HA.out n.w (Ct Cr.out n.h)
       have F0:=fun n:KW wr=>(M0 n).1
       have F1:=fun n:KW wr=>(M0 n).2.1
       have F2:=fun n:KW wr=>(M0 n).2.2.1
       have F3:=fun n:KW wr=>(M0 n).2.2.2.1
       have F4:=fun n:KW wr=>(M0 n).2.2.2.2.1
       have F5:=fun n:KW wr=>(M0 n).2.2.2.2.2.1
       have F6:=fun n:KW wr=>(M0 n).2.2.2.2.2.2.1
       have F7:=fun n:KW wr=>(M0 n).2.2.2.2.2.2.2.1
       have F8:=fun n:KW wr=>(M0 n).2.2.2.2.2.2.2.2.1
       have F9:=fun n:KW wr=>(M0 n).2.2.2.2.2.2.2.2.2
       have K0:=fun n:KW wr=>kept_cell c0 n
       have K1:=fun n:KW wr=>kept_cell c1 n
       have K2:=fun n:KW wr=>kept_cell c2 n
       have K3:=fun n:KW wr=>kept_cell c3 n
       have K4:=fun n:KW wr=>kept_cell c4 n
       have K5:=fun n:KW wr=>kept_cell c5 n
       have K6:=fun n:KW wr=>kept_cell c6 n
       have HL:=zI (fun n:KW wr=>kept_call (has11_any n.w m x));unfold mA iA at HL;obtain ⟨b,hbb⟩:∃ b,b=hasI m x:=⟨_,rfl⟩;rw[<-hbb] at HL;obtain ⟨b1,hb1⟩:∃ b,decide (18 < x.op)=b:=⟨_,rfl⟩;obtain ⟨b2,hb2⟩:∃ b,decide (10 < x.op)=b:=⟨_,rfl⟩;obtain ⟨b3,hb3⟩:∃ b,decide (x.op < 15)=b:=⟨_,rfl⟩;clear hbb M0 hx c1 c2 c3 c4 c5 c6 e0 e1 e2 e3 e4 e5 e6 e7 e8 e9;cases b with
       | false=>
        cases q with
        | true=>
         go_wp2_with fail
         refine wp_region_kept wr (Chg.refl _ _) (by kernel_rfl) (by kernel_rfl) ?_;repeat (go_big_quiet_step (with_reducible exact HL.out _))
         refine wpQuiet_nil ?_;rintro w4 ⟨n,rfl⟩;have C4:=zI (Ct Cr.out n.h);obtain ⟨w5,hw5⟩:∃ w5,w5=n.w:=⟨_,rfl⟩;rw[<-hw5] at C4 |-;clear hw5 F0 F1 F2 F3 F4 F5 F6 F7 F8 F9 K0 K1 K2 K3 K4 K5 K6 HL;go_wp2
         go_ret;exact ⟨⟨_,rfl,fun h=>by cases h⟩,Ct C0.out C4.out⟩
        | false=>
         go_wp2_with fail
         refine wp_region_kept wr (Chg.refl _ _) (by kernel_rfl) (by kernel_rfl) ?_;repeat (go_big_quiet_step (with_reducible exact HL.out _))
         refine wpQuiet_nil ?_;rintro w4 ⟨n,rfl⟩;have C4:=zI (Ct Cr.out n.h);obtain ⟨w5,hw5⟩:∃ w5,w5=n.w:=⟨_,rfl⟩;rw[<-hw5] at C4 |-;clear hw5 F0 F1 F2 F3 F4 F5 F6 F7 F8 F9 K0 K1 K2 K3 K4 K5 K6 HL;go_wp2
         go_ret;exact ⟨⟨_,rfl,fun h=>by cases h⟩,Ct C0.out C4.out⟩
       | true=>
        cases q with
        | true=>
         go_wp2_with fail
         refine wp_region_kept wr (Chg.refl _ _) (by kernel_rfl) (by kernel_rfl) ?_;repeat (go_big_quiet_step (with_reducible exact HL.out _))
         refine wpQuiet_nil ?_;rintro w4 ⟨n,rfl⟩;have C4:=zI (Ct Cr.out n.h);obtain ⟨w5,hw5⟩:∃ w5,w5=n.w:=⟨_,rfl⟩;rw[<-hw5] at C4 |-;clear hw5 F0 F1 F2 F3 F4 F5 F6 F7 F8 F9 K0 K1 K2 K3 K4 K5 K6 HL;go_wp2_with fail
         go_roundw
         case rel=>exact ⟨i+1,by omega,by go_num,C4⟩
         case measure=>(simp[intOf]<;>omega)
        | false=>
         cases b1 with
         | true=>
          go_wp2_with fail
          refine wp_region_kept wr (Chg.refl _ _) (by kernel_rfl) (by kernel_rfl) ?_;repeat (go_big_quiet_step (with_reducible exact HL.out _))
          refine wpQuiet_nil ?_;rintro w4 ⟨n,rfl⟩;have C4:=zI (Ct Cr.out n.h);obtain ⟨w5,hw5⟩:∃ w5,w5=n.w:=⟨_,rfl⟩;rw[<-hw5] at C4 |-;clear hw5 F0 F1 F2 F3 F4 F5 F6 F7 F8 F9 K0 K1 K2 K3 K4 K5 K6 HL;go_wp2
          go_ret;exact ⟨⟨_,rfl,fun h=>by cases h⟩,Ct C0.out C4.out⟩
         | false=>
          cases b2 with
          | true=>
           cases b3 with
           | true=>
            go_wp2_with fail
            refine wp_region_kept wr (Chg.refl _ _) (by kernel_rfl) (by kernel_rfl) ?_;repeat (go_big_quiet_step (with_reducible exact HL.out _))
            refine wpQuiet_nil ?_;rintro w4 ⟨n,rfl⟩;have C4:=zI (Ct Cr.out n.h);obtain ⟨w5,hw5⟩:∃ w5,w5=n.w:=⟨_,rfl⟩;rw[<-hw5] at C4 |-;clear hw5 F0 F1 F2 F3 F4 F5 F6 F7 F8 F9 K0 K1 K2 K3 K4 K5 K6 HL;go_wp2
            go_ret;exact ⟨⟨_,rfl,fun h=>by cases h⟩,Ct C0.out C4.out⟩
           | false=>
            go_wp2_with fail
            refine wp_region_kept wr (Chg.refl _ _) (by kernel_rfl) (by kernel_rfl) ?_;repeat (go_big_quiet_step (with_reducible exact HL.out _))
            refine wpQuiet_nil ?_;rintro w4 ⟨n,rfl⟩;have C4:=zI (Ct Cr.out n.h);obtain ⟨w5,hw5⟩:∃ w5,w5=n.w:=⟨_,rfl⟩;rw[<-hw5] at C4 |-;clear hw5 F0 F1 F2 F3 F4 F5 F6 F7 F8 F9 K0 K1 K2 K3 K4 K5 K6 HL;go_wp2_with fail
            go_roundw
            case rel=>exact ⟨i+1,by omega,by go_num,C4⟩
            case measure=>(simp[intOf]<;>omega)
          | false=>
           go_wp2_with fail
           refine wp_region_kept wr (Chg.refl _ _) (by kernel_rfl) (by kernel_rfl) ?_;repeat (go_big_quiet_step (with_reducible exact HL.out _))
           refine wpQuiet_nil ?_;rintro w4 ⟨n,rfl⟩;have C4:=zI (Ct Cr.out n.h);obtain ⟨w5,hw5⟩:∃ w5,w5=n.w:=⟨_,rfl⟩;rw[<-hw5] at C4 |-;clear hw5 F0 F1 F2 F3 F4 F5 F6 F7 F8 F9 K0 K1 K2 K3 K4 K5 K6 HL;go_wp2_with fail
           go_roundw
           case rel=>exact ⟨i+1,by omega,by go_num,C4⟩
           case measure=>(simp[intOf]<;>omega)
      ·obtain rfl:i=f.length:=by omega
       go_wp2
       go_ret;exact ⟨⟨_,rfl,fun _=>hlen.out⟩,Ct C0.out Cr.out⟩
    ·have d1:decide ((j:Int) < (f.length:Int))=false:=by rw[dF];omega
     clear hmore;go_wp2_with (go_at_call 31;refine HK.out.mono ?_;rintro e w' ⟨rfl,rfl⟩;clear HK)
     clear hlt d1;go_loopw [9,10] (fun x _ wr=>∃ i:Nat,i<=f.length/\x=.int .i64 i/\Hid (Chg (fun _=>False) w1 wr)) (fun x _ _=>f.length - (intOf x).toNat)
     case atStart=>exact ⟨0,Nat.zero_le _,rfl,HC⟩
     case round=>
      obtain ⟨i,hi,rfl,Cr⟩:=hrel;by_cases hlt:i < f.length
      ·obtain ⟨x,hx⟩:∃ x,f[i]?=some x:=⟨_,gG hlt⟩;obtain ⟨xb,o,hA0,_,c0,c1,c2,c3,c4,c5,c6⟩:=ins_at (HR.out.later Cr.out (fun _ h=>h.elim)) hx;subst hA0;obtain ⟨e0,e1,e2,e3,e4,e5,e6,e7,e8,e9⟩:=HA.out wr Cr.out;have M0:=fun n:KW wr=>HA.out n.w (Ct Cr.out n.h)
       have F0:=fun n:KW wr=>(M0 n).1
       have F1:=fun n:KW wr=>(M0 n).2.1
       have F2:=fun n:KW wr=>(M0 n).2.2.1
       have F3:=fun n:KW wr=>(M0 n).2.2.2.1
       have F4:=fun n:KW wr=>(M0 n).2.2.2.2.1
       have F5:=fun n:KW wr=>(M0 n).2.2.2.2.2.1
       have F6:=fun n:KW wr=>(M0 n).2.2.2.2.2.2.1
       have F7:=fun n:KW wr=>(M0 n).2.2.2.2.2.2.2.1
       have F8:=fun n:KW wr=>(M0 n).2.2.2.2.2.2.2.2.1
       have F9:=fun n:KW wr=>(M0 n).2.2.2.2.2.2.2.2.2
       have K0:=fun n:KW wr=>kept_cell c0 n
       have K1:=fun n:KW wr=>kept_cell c1 n
       have K2:=fun n:KW wr=>kept_cell c2 n
       have K3:=fun n:KW wr=>kept_cell c3 n
       have K4:=fun n:KW wr=>kept_cell c4 n
       have K5:=fun n:KW wr=>kept_cell c5 n
       have K6:=fun n:KW wr=>kept_cell c6 n
       have HL:=zI (fun n:KW wr=>kept_call (has11_any n.w m x));unfold mA iA at HL;obtain ⟨b,hbb⟩:∃ b,b=hasI m x:=⟨_,rfl⟩;rw[<-hbb] at HL;obtain ⟨b1,hb1⟩:∃ b,decide (18 < x.op)=b:=⟨_,rfl⟩;obtain ⟨b2,hb2⟩:∃ b,decide (10 < x.op)=b:=⟨_,rfl⟩;obtain ⟨b3,hb3⟩:∃ b,decide (x.op < 15)=b:=⟨_,rfl⟩;clear hbb M0 hx c1 c2 c3 c4 c5 c6 e0 e1 e2 e3 e4 e5 e6 e7 e8 e9;cases b with
       | false=>
        cases q with
        | true=>
         go_wp2_with fail
         refine wp_region_kept wr (Chg.refl _ _) (by kernel_rfl) (by kernel_rfl) ?_;repeat (go_big_quiet_step (with_reducible exact HL.out _))
         refine wpQuiet_nil ?_;rintro w4 ⟨n,rfl⟩;have C4:=zI (Ct Cr.out n.h);obtain ⟨w5,hw5⟩:∃ w5,w5=n.w:=⟨_,rfl⟩;rw[<-hw5] at C4 |-;clear hw5 F0 F1 F2 F3 F4 F5 F6 F7 F8 F9 K0 K1 K2 K3 K4 K5 K6 HL;go_wp2
         go_ret;exact ⟨⟨_,rfl,fun h=>by cases h⟩,Ct C0.out C4.out⟩
        | false=>
         go_wp2_with fail
         refine wp_region_kept wr (Chg.refl _ _) (by kernel_rfl) (by kernel_rfl) ?_;repeat (go_big_quiet_step (with_reducible exact HL.out _))
         refine wpQuiet_nil ?_;rintro w4 ⟨n,rfl⟩;have C4:=zI (Ct Cr.out n.h);obtain ⟨w5,hw5⟩:∃ w5,w5=n.w:=⟨_,rfl⟩;rw[<-hw5] at C4 |-;clear hw5 F0 F1 F2 F3 F4 F5 F6 F7 F8 F9 K0 K1 K2 K3 K4 K5 K6 HL;go_wp2
         go_ret;exact ⟨⟨_,rfl,fun h=>by cases h⟩,Ct C0.out C4.out⟩
       | true=>
        cases q with
        | true=>
         go_wp2_with fail
         refine wp_region_kept wr (Chg.refl _ _) (by kernel_rfl) (by kernel_rfl) ?_;repeat (go_big_quiet_step (with_reducible exact HL.out _))
         refine wpQuiet_nil ?_;rintro w4 ⟨n,rfl⟩;have C4:=zI (Ct Cr.out n.h);obtain ⟨w5,hw5⟩:∃ w5,w5=n.w:=⟨_,rfl⟩;rw[<-hw5] at C4 |-;clear hw5 F0 F1 F2 F3 F4 F5 F6 F7 F8 F9 K0 K1 K2 K3 K4 K5 K6 HL;go_wp2_with fail
         go_roundw
         case rel=>exact ⟨i+1,by omega,by go_num,C4⟩
         case measure=>(simp[intOf]<;>omega)
        | false=>
         cases b1 with
         | true=>
          go_wp2_with fail
          refine wp_region_kept wr (Chg.refl _ _) (by kernel_rfl) (by kernel_rfl) ?_;repeat (go_big_quiet_step (with_reducible exact HL.out _))
          refine wpQuiet_nil ?_;rintro w4 ⟨n,rfl⟩;have C4:=zI (Ct Cr.out n.h);obtain ⟨w5,hw5⟩:∃ w5,w5=n.w:=⟨_,rfl⟩;rw[<-hw5] at C4 |-;clear hw5 F0 F1 F2 F3 F4 F5 F6 F7 F8 F9 K0 K1 K2 K3 K4 K5 K6 HL;go_wp2
          go_ret;exact ⟨⟨_,rfl,fun h=>by cases h⟩,Ct C0.out C4.out⟩
         | false=>
          cases b2 with
          | true=>
           cases b3 with
           | true=>
            go_wp2_with fail
            refine wp_region_kept wr (Chg.refl _ _) (by kernel_rfl) (by kernel_rfl) ?_;repeat (go_big_quiet_step (with_reducible exact HL.out _))
            refine wpQuiet_nil ?_;rintro w4 ⟨n,rfl⟩;have C4:=zI (Ct Cr.out n.h);obtain ⟨w5,hw5⟩:∃ w5,w5=n.w:=⟨_,rfl⟩;rw[<-hw5] at C4 |-;clear hw5 F0 F1 F2 F3 F4 F5 F6 F7 F8 F9 K0 K1 K2 K3 K4 K5 K6 HL;go_wp2
            go_ret;exact ⟨⟨_,rfl,fun h=>by cases h⟩,Ct C0.out C4.out⟩
           | false=>
            go_wp2_with fail
            refine wp_region_kept wr (Chg.refl _ _) (by kernel_rfl) (by kernel_rfl) ?_;repeat (go_big_quiet_step (with_reducible exact HL.out _))
            refine wpQuiet_nil ?_;rintro w4 ⟨n,rfl⟩;have C4:=zI (Ct Cr.out n.h);obtain ⟨w5,hw5⟩:∃ w5,w5=n.w:=⟨_,rfl⟩;rw[<-hw5] at C4 |-;clear hw5 F0 F1 F2 F3 F4 F5 F6 F7 F8 F9 K0 K1 K2 K3 K4 K5 K6 HL;go_wp2_with fail
            go_roundw
            case rel=>exact ⟨i+1,by omega,by go_num,C4⟩
            case measure=>(simp[intOf]<;>omega)
          | false=>
           go_wp2_with fail
           refine wp_region_kept wr (Chg.refl _ _) (by kernel_rfl) (by kernel_rfl) ?_;repeat (go_big_quiet_step (with_reducible exact HL.out _))
           refine wpQuiet_nil ?_;rintro w4 ⟨n,rfl⟩;have C4:=zI (Ct Cr.out n.h);obtain ⟨w5,hw5⟩:∃ w5,w5=n.w:=⟨_,rfl⟩;rw[<-hw5] at C4 |-;clear hw5 F0 F1 F2 F3 F4 F5 F6 F7 F8 F9 K0 K1 K2 K3 K4 K5 K6 HL;go_wp2_with fail
           go_roundw
           case rel=>exact ⟨i+1,by omega,by go_num,C4⟩
           case measure=>(simp[intOf]<;>omega)
      ·obtain rfl:i=f.length:=by omega
       go_wp2
       go_ret;exact ⟨⟨_,rfl,fun _=>hlen.out⟩,Ct C0.out Cr.out⟩
   ·have dk:(k !=0)=true:=by simpa using h0
    clear h0 hok hown hM h5 HO;by_cases hlt:j < f.length
    ·have d1:decide ((j:Int) < (f.length:Int))=true:=by rw[dT];omega
     have d2:decide ((j:Int) < 70)=false:=by rw[dF];omega
     clear hmore;go_wp2_with (go_at_call 31;refine HK.out.mono ?_;rintro e w' ⟨rfl,rfl⟩;clear HK)
     go_ret;exact ⟨⟨_,rfl,fun h=>by cases h⟩,Ct C0.out HC.out⟩
    ·have d1:decide ((j:Int) < (f.length:Int))=false:=by rw[dF];omega
     clear hmore;go_wp2_with (go_at_call 31;refine HK.out.mono ?_;rintro e w' ⟨rfl,rfl⟩;clear HK)
     go_ret;exact ⟨⟨_,rfl,fun h=>by cases h⟩,Ct C0.out HC.out⟩
end
end Go.Proofs.YthohgagkjnbkbaaGreat
