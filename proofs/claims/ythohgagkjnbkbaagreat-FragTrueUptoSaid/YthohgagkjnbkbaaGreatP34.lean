/- FragTrue, part 34: FrZf. Each theorem says what a function does, or a plain fact, under its own premises alone. -/
import Derived.Test.YthohgagkjnbkbaaGreatP33
set_option maxRecDepth 100000
set_option maxHeartbeats 16000000
namespace Go.Proofs.YthohgagkjnbkbaaGreat
section
open Go.RowKit
theorem fits_any (w:World) (z:ZC) (p q:Nat) (cap a b:Int) (hz:ZOK w z) (hpq:p<=q) (hq:q<=z.gl.length) (hq2:q<=100) (hg:∀ x ∈ z.gl,0<=x/\x<=15):Calls Tryz.prog 110 #[.agg (zA z),.int .i64 p,.int .i64 q,.int .i64 cap,.int .i64 a,.int .i64 b] w fun e w'=>IsB e/\Chg (fun _=>False) w w':=by
 have hb:=Blk.new w 88 (zA z);have C0:=zI ((Chg.refl (fun _=>False) w).alloc (.cells (zA z) 88));obtain ⟨w1,hw1⟩:∃ w1,w1=w.alloc (.cells (zA z) 88):=⟨_,rfl⟩;rw[<-hw1] at hb C0;obtain ⟨e0,e1⟩:=zcells hb;have HZ:=zI (hz.later C0.out);have HG:=zI (fun w' m hm=>gapF_any w' a b m hm);replace hg:=zI hg;clear hb hz;unfold zA at hw1 |-;go_enter Tryz.func110,Tryz.ntmps110;go_wp2_with fail
 rw[<-hw1];clear hw1;go_loopw [15,13,14] (fun x y v wr=>∃ (i:Nat) (sum:Int) (wide:Bool),p<=i/\i<=q/\x=.int .i64 i/\y=.int .i64 sum/\v=.bool wide/\-1<=sum/\sum<=100+15 * ((i:Int) - p)/\w1=wr) (fun x _ _ _=>q - (intOf x).toNat)
 case atStart=>exact ⟨p,_,false,Nat.le_refl _,hpq,rfl,by go_num,rfl,by omega,by omega,rfl⟩
 case round=>
  obtain ⟨i,sum,wide,hpi,hiq,rfl,rfl,rfl,hs1,hs2,rfl⟩:=hrel;by_cases hlt:i < q
  ·obtain ⟨x,hx⟩:∃ x,z.gl[i]?=some x:=⟨_,gG (by omega)⟩;obtain ⟨b0,o0,hA,_,c0⟩:=int_at HZ.out.gap hx;obtain ⟨hx0,hx1⟩:=hg.out x (List.mem_of_getElem? hx);rw[hA] at e1;have hil:i < z.gl.length:=by omega
   obtain ⟨e,qe⟩:∃ e,(x ==cap)=e:=⟨_,rfl⟩;clear hx hA;cases wide with
   | true=>
    go_wp2_with fail
    go_roundw
    case rel=>exact ⟨i+1,sum+x,true,by omega,by omega,by go_num,by go_num,rfl,by omega,by omega,trivial⟩
    case measure=>(simp[intOf]<;>omega)
   | false=>
    cases e with
    | true=>
     go_wp2_with fail
     go_roundw
     case rel=>exact ⟨i+1,sum+x,true,by omega,by omega,by go_num,by go_num,rfl,by omega,by omega,trivial⟩
     case measure=>(simp[intOf]<;>omega)
    | false=>
     go_wp2_with fail
     go_roundw
     case rel=>exact ⟨i+1,sum+x,false,by omega,by omega,by go_num,by go_num,rfl,by omega,by omega,trivial⟩
     case measure=>(simp[intOf]<;>omega)
  ·obtain rfl:i=q:=by omega
   have HG2:=zI (HG.out w1 (sum+1) (by omega));go_wp2_with fail
   go_at_call 106
   refine HG2.out.mono ?_;rintro e w' ⟨⟨n,rfl,hn0,hn1⟩,rfl⟩;obtain ⟨b1,q1⟩:∃ e,(n ==sum)=e:=⟨_,rfl⟩;obtain ⟨b3,q3⟩:∃ e,decide (sum < n)=e:=⟨_,rfl⟩;cases b1 with
   | true=>
    go_wp2
    go_ret;exact ⟨⟨_,rfl⟩,C0.out⟩
   | false=>
    cases wide with
    | false=>
     go_wp2
     go_ret;exact ⟨⟨_,rfl⟩,C0.out⟩
    | true=>
     go_wp2
     go_ret;exact ⟨⟨_,rfl⟩,C0.out⟩
theorem cnt_pos {cl:List (Int × Int)} {p i:Nat} {c:Int × Int} (hp:cl[p]?=some c) (hc:0<=c.2) (hpi:p < i):1<=cntC (cl.take i):=by
 unfold cntC;rw[Nat.succ_le_iff,List.countP_pos_iff];refine ⟨c,?_,by simp;omega⟩;exact List.mem_of_getElem? (i:=p) (by rw[List.getElem?_take,if_pos hpi];exact hp)
theorem check22_any (w:World) (z:ZC) (n:Nat) (A:Option Addr) (c:Nat) (q:List Int) (r:Int) (hz:ZOK w z) (hA:Rd w w.heap.size A (intsV q)) (hn:n<=31) (hq:q.length<=60) (hr:r<=4):Calls Tryz.prog 83 #[.agg (zA z),.int .i64 n,.slice A q.length c,.int .i64 r] w fun e w'=>BR (z.cl.length<=n+q.length/\z.gl.length=z.cl.length - 1) e/\Chg (fun _=>False) w w':=by
 have hb:=Blk.new w 88 (zA z);have C0:=zI ((Chg.refl (fun _=>False) w).alloc (.cells (zA z) 88));obtain ⟨w1,hw1⟩:∃ w1,w1=w.alloc (.cells (zA z) 88):=⟨_,rfl⟩;rw[<-hw1] at hb C0;have HE:=zI (fun (w':World) (h:Chg (fun _=>False) w1 w')=>zcells (hb.chg h (fun h=>h)));have HZ:=zI (fun (w':World) (h:Chg (fun _=>False) w1 w')=>(hz.later C0.out).later h);have HS:=zI (sorted_any w1 q A c (hA.later C0.out (fun _ h=>h.elim)) (by omega));unfold InR at HS;have hsl:=srt_le q;have HCL:=zI (fun (w':World) (h:Chg (fun _=>False) w1 w') (k:Nat)=>classes_any w' z n k ((hz.later C0.out).later h) hn);have HFT:=zI (fun (w':World) (h:Chg (fun _=>False) w1 w') (p q:Nat) (cap a b:Int) (h1:p<=q) (h2:q<=z.gl.length) (h3:q<=100) (h4:∀ x ∈ z.gl,0<=x/\x<=15)=>fits_any w' z p q cap a b ((hz.later C0.out).later h) h1 h2 h3 h4);have HCP:=zI (fun w'=>cap_any w' r);have hK15:=capN_small hr;obtain ⟨K,hK⟩:∃ K,K=capN r:=⟨_,rfl⟩;rw[<-hK] at HCP hK15;obtain ⟨lg,lc⟩:=hz.few;clear hb hz hA hK;unfold zA at hw1 HCL HFT |-;have dn1:decide ((n:Int) < 0)=false:=by rw[dF];omega
 have dn2:decide ((31:Int) < (n:Int))=false:=by rw[dF];omega
 have dn2N:decide (31 < n)=false:=by rw[dF];omega
 go_enter Tryz.func83,Tryz.ntmps83;go_wp2_with fail
 rw[<-hw1];clear hw1;go_at_call 26
 refine HS.out.mono ?_;rintro e w2 ⟨Ac,cc,rfl,-,hRc,hC2⟩;have C2:=zI hC2;have HQ:=zI (fun (w':World) (h:Chg (fun _=>False) w2 w')=>hRc.later h (fun _ h=>h.elim));obtain ⟨sq,hsq⟩:∃ sq,sq=srt q:=⟨_,rfl⟩;rw[<-hsq] at HQ hsl |-;clear hsq hRc hC2 HS;obtain ⟨e0,e1⟩:=HE.out w2 C2.out;go_wp2_with fail
 go_at_call 109
 refine (HCL.out w2 C2.out sq.length).mono ?_;rintro e w3 ⟨⟨bc,rfl,hbc⟩,hC3⟩;have C3:=zI (Ct C2.out hC3);have HQ3:=zI (fun (w':World) (h:Chg (fun _=>False) w3 w')=>HQ.out w' (Ct hC3 h));replace hbc:=zI hbc;clear hC3 HQ e0 e1;obtain ⟨e0,e1⟩:=HE.out w3 C3.out;cases bc with
 | false=>
  go_wp2
  go_ret;exact ⟨⟨_,rfl,nob⟩,Ct C0.out C3.out⟩
 | true=>
  have hok:=zI (hbc.out rfl);have hcll:=cls_len hok.out hn;clear hbc;by_cases hL:z.cl.length=0
  ·have hp:((z.cl.length:Int) - 1 < 0)=True:=eq_true (by omega);obtain ⟨bm,qm⟩:∃ b,((z.gl.length:Int) !=0)=b:=⟨_,rfl⟩;have qmN:(z.gl.length !=0)=bm:=by rw[<-qm,Bool.eq_iff_iff,bne_iff_ne,bne_iff_ne];omega
   cases bm with
   | true=>
    clear hL;go_wp2
    go_ret;exact ⟨⟨_,rfl,nob⟩,Ct C0.out C3.out⟩
   | false=>
    have hgl:Hid (z.gl.length=z.cl.length - 1):=by
     have:z.gl.length=0:=by simpa using qmN
     show _=_;omega
    clear hL;go_wp2_with fail
    clear hp qm e0 e1;go_loopw [11] (fun x wr=>∃ j:Nat,j<=z.gl.length/\x=.int .i64 j/\Hid (∀ y ∈ z.gl.take j,0<=y/\y<=15)/\Hid (Chg (fun _=>False) w3 wr)) (fun x _=>z.gl.length - (intOf x).toNat)
    case atStart=>exact ⟨0,Nat.zero_le _,rfl,zI (by simp),Chg.refl _ _⟩
    case round=>
     obtain ⟨j,hj,rfl,hgs,CR⟩:=hrel;obtain ⟨e0,e1⟩:=HE.out wr (Ct C3.out CR.out);by_cases hlt:j < z.gl.length
     ·obtain ⟨x,hx⟩:∃ x,z.gl[j]?=some x:=⟨_,gG hlt⟩;obtain ⟨b0,o0,hA,_,c0⟩:=int_at (HZ.out wr (Ct C3.out CR.out)).gap hx;rw[hA] at e1;have hgs2:Hid (0<=x->x<=15->∀ y ∈ z.gl.take (j+1),0<=y/\y<=15):=fun h1 h2 y hy=>by
       obtain ⟨hk,rfl⟩:=List.getElem?_eq_some_iff.1 hx;rw[List.take_succ_eq_append_getElem hk] at hy;rcases List.mem_append.1 hy with hy | hy
       ·exact hgs.out y hy
       ·rw[List.mem_singleton.1 hy];exact ⟨h1,h2⟩
      have K1:=fun n:KW wr=>kept_cell e1 n
      have Y0:=fun n:KW wr=>kept_cell c0 n
      have HK:=zI (fun n:KW wr=>kept_same (HCP.out n.w));clear hx hA c0;by_cases h0:x < 0
      ·have d0:decide (x < 0)=true:=by simpa using h0
       clear h0;go_wp2_with fail
       refine wp_region_kept wr (Chg.refl _ _) (by kernel_rfl) (by kernel_rfl) ?_;repeat (go_big_quiet_step (with_reducible exact HK.out _))
       refine wpQuiet_nil ?_;rintro w4' ⟨n4,rfl⟩;have C4:=zI (Ct CR.out n4.h);obtain ⟨w5,hw5⟩:∃ w5,w5=n4.w:=⟨_,rfl⟩;rw[<-hw5] at C4 |-;clear hw5 K1 Y0 HK;go_wp2
       go_ret;exact ⟨⟨_,rfl,nob⟩,Ct C0.out (Ct C3.out C4.out)⟩
      ·have d0:decide (x < 0)=false:=by simpa using h0
       by_cases h1:(K:Int) < x
       ·have dk:decide ((K:Int) < x)=true:=by simpa using h1
        clear h0 h1;go_wp2_with fail
        refine wp_region_kept wr (Chg.refl _ _) (by kernel_rfl) (by kernel_rfl) ?_;repeat (go_big_quiet_step (with_reducible exact HK.out _))
        refine wpQuiet_nil ?_;rintro w4' ⟨n4,rfl⟩;have C4:=zI (Ct CR.out n4.h);obtain ⟨w5,hw5⟩:∃ w5,w5=n4.w:=⟨_,rfl⟩;rw[<-hw5] at C4 |-;clear hw5 K1 Y0 HK;go_wp2
        go_ret;exact ⟨⟨_,rfl,nob⟩,Ct C0.out (Ct C3.out C4.out)⟩
       ·have dk:decide ((K:Int) < x)=false:=by simpa using h1
        have hgs3:=zI (hgs2.out (by omega) (by omega));clear h0 h1;go_wp2_with fail
        refine wp_region_kept wr (Chg.refl _ _) (by kernel_rfl) (by kernel_rfl) ?_;repeat (go_big_quiet_step (with_reducible exact HK.out _))
        refine wpQuiet_nil ?_;rintro w4' ⟨n4,rfl⟩;have C4:=zI (Ct CR.out n4.h);obtain ⟨w5,hw5⟩:∃ w5,w5=n4.w:=⟨_,rfl⟩;rw[<-hw5] at C4 |-;clear hw5 K1 Y0 HK;go_wp2_with fail
        go_roundw
        case rel=>exact ⟨j+1,by omega,by go_num,hgs3,C4⟩
        case measure=>(simp[intOf]<;>omega)
     ·obtain rfl:j=z.gl.length:=by omega
      have hgs4:Hid (∀ y ∈ z.gl,0<=y/\y<=15):=by have:=hgs.out;rw[List.take_length] at this;exact this
      clear hgs;go_wp2_with fail
      clear e0 e1;go_loopw [12,13,10] (fun x _ v wt=>∃ (i:Nat) (last:Int),i<=z.cl.length/\x=.int .i64 i/\v=.int .i64 last/\Hid (last=-1\/∃ p:Nat,last=p/\p < i/\1<=cntC (z.cl.take i))/\Hid (Chg (fun _=>False) w3 wt)) (fun x _ _ _=>z.cl.length - (intOf x).toNat)
      case atStart=>exact ⟨0,-1,Nat.zero_le _,rfl,rfl,zI (.inl rfl),CR⟩
      case round=>
       rename World=>wq
       obtain ⟨i,last,hi,rfl,rfl,hlast,CQ⟩:=hrel;have HEq:=zI (fun (w':World) (h:Chg (fun _=>False) wq w')=>HE.out w' (Ct C3.out (Ct CQ.out h)));obtain ⟨e0,e1⟩:=HEq.out wq (Chg.refl _ _);by_cases hlt:i < z.cl.length
       ·obtain ⟨⟨at',cs⟩,hx⟩:∃ x,z.cl[i]?=some x:=⟨_,gG hlt⟩;obtain ⟨b0,o0,hA,_,c0,c1⟩:=so_at (HZ.out wq (Ct C3.out CQ.out)).cls hx;rw[hA] at e0;have hlater:Hid (∀ p:Nat,p < i->1<=cntC (z.cl.take i)->1<=cntC (z.cl.take (i+1))):=fun p _ h=>by
         unfold cntC at h |-;rw[countP_take hx];omega
        by_cases hc0:cs < 0
        ·have dc:decide (cs < 0)=true:=by simpa using hc0
         clear hx hA hc0;go_wp2_with fail
         go_roundw
         case rel=>exact ⟨i+1,last,by omega,by go_num,rfl,zI (by rcases hlast.out with h | ⟨p,h1,h2,h3⟩;exact .inl h;exact .inr ⟨p,h1,by omega,hlater.out p h2 h3⟩),CQ⟩
         case measure=>(simp[intOf]<;>omega)
        ·have dc:decide (cs < 0)=false:=by simpa using hc0
         obtain ⟨hk1,hk2⟩:=cnt_lt hok.out hx (by show 0<=cs;omega);have hnext:Hid (1<=cntC (z.cl.take (i+1))):=cnt_pos (p:=i) hx (by show 0<=cs;omega) (by omega);obtain ⟨kk,hkk⟩:∃ kk,kk=cntC (z.cl.take i):=⟨_,rfl⟩;rw[<-hkk] at hk1 hk2 hlast;have hk1':cs=(kk:Int):=hk1;subst hk1';replace hkk:=zI hkk;clear hx hA hk1 hc0 hlater;rcases hlast.out with hl1 | ⟨p,hl1,hl2,hl3⟩
         ·subst hl1;go_wp2_with fail
          refine wp_region_kept wq (Chg.refl _ _) (by kernel_rfl) (by kernel_rfl) ?_;repeat (go_big_quiet_step (fail))
          refine wpQuiet_nil ?_;rintro w4' ⟨n4,rfl⟩;have C4:=zI (Ct CQ.out n4.h);obtain ⟨w5,hw5⟩:∃ w5,w5=n4.w:=⟨_,rfl⟩;rw[<-hw5] at C4 |-;clear hw5;go_wp2_with fail
          go_roundw
          case rel=>exact ⟨i+1,(i:Int),by omega,by go_num,by go_num,zI (.inr ⟨i,rfl,by omega,hnext.out⟩),C4⟩
          case measure=>(simp[intOf]<;>omega)
         ·subst hl1;obtain ⟨kp,hkp⟩:∃ kp,kk=kp+1:=⟨kk - 1,by omega⟩;have hwk:Hid (IntKind.i64.wrap ((kk:Int) - 1)=(kp:Int)):=by show _=_;rw[IntKind.wrap_i64];omega
          have hkpl:kp < sq.length:=by omega
          obtain ⟨x1,hx1⟩:∃ x,sq[kp]?=some x:=⟨_,gG hkpl⟩;obtain ⟨x2,hx2⟩:∃ x,sq[kk]?=some x:=⟨_,gG hk2⟩;obtain ⟨lb,lo,hAc,_,-⟩:=int_at (HQ3.out wq CQ.out) hx1;have HY:Hid (∀ w',Chg (fun _=>False) wq w'->w'.cell? ⟨lb,lo+kp,none⟩=some (.int .i64 x1)/\w'.cell? ⟨lb,lo+kk,none⟩=some (.int .i64 x2)):=fun w' h=>by
           have hh:=Ct CQ.out h;obtain ⟨b1,o1,E1,_,g1⟩:=int_at (HQ3.out w' hh) hx1;obtain ⟨b2,o2,E2,_,g2⟩:=int_at (HQ3.out w' hh) hx2;rw[hAc] at E1 E2;injection E1 with E1;injection E1 with E11 E12 _;injection E2 with E2;injection E2 with E21 E22 _;subst E11;subst E12;subst E21;subst E22;exact ⟨g1,g2⟩
          have HEz:=zI (fun (w':World) (h:Chg (fun _=>False) wq w')=>HEq.out w' h);have HF:=zI (fun (w':World) (h:Chg (fun _=>False) wq w')=>HFT.out w' (Ct C3.out (Ct CQ.out h)) p i (K:Int) x1 x2 (by omega) (by have:=hgl.out;omega) (by omega) hgs4.out);have dp:decide ((0:Int)<=(p:Int))=true:=by rw[dT];omega
          clear hx1 hx2 hl3;replace hAc:=zI hAc;have hT9:=hAc.out;rw[hT9];clear hT9;replace hkp:=zI hkp;go_wp2_with fail
          clear e0 e1 c0 c1;refine region_mv (by kernel_rfl) [some 79,some 80,some 81,some 82,some 83,some 84,some 85,some 86,some 87,some 88,some 89,some 90,some 91,some 92,some 93,some 94,some 95,some 96,some 97,some 98] [79,80,81,82,83,84,85,86,87,88,89,90,91,92,93,94,95,96,97,98] [.is (.int .i64 (p:Int)),.is (.bool true),.is (.bool true),.is (.agg #[.slice z.cA z.cl.length z.cC,.slice z.gA z.gl.length z.gC]),.is (.int .i64 (p:Int)),.is (.int .i64 (i:Int)),.is (.int .i64 r),.is (.int .i64 (K:Int)),.is (.slice (some ⟨lb,lo,none⟩) sq.length cc),.is (.int .i64 (kk:Int)),.is (.int .i64 (kp:Int)),.is (.pointer (some ⟨lb,lo+kp,none⟩)),.is (.int .i64 x1),.is (.slice (some ⟨lb,lo,none⟩) sq.length cc),.is (.int .i64 (kk:Int)),.is (.pointer (some ⟨lb,lo+kk,none⟩)),.is (.int .i64 x2),.su (fun v _=>∃ b:Bool,v=.bool b),.su (fun v _=>∃ b:Bool,v=.bool b),.su (fun v _=>∃ b:Bool,v=.bool b)] 99 (fun _=>False) (by kernel_rfl) (by kernel_rfl) ?_ ?_
          ·refine ⟨?_,?_,?_,?_,?_,?_,?_,?_,?_,?_,?_,?_,?_,?_,?_,?_,?_,?_,?_,?_,trivial⟩
           ·intro f a wz _ hout _ _ _ _;have x10:(a.tmps[10]?).getD undef=.int .i64 (p:Int):=hout 10 (by rfl);exact mv_is rfl rfl (by simp[execOp,go_sem,x10]) rfl (by simp)
           ·intro f a wz hin _ _ _ _ hd;have x79:(a.tmps[79]?).getD undef=.int .i64 (p:Int):=(hin 79 (by rfl)).trans (hd 0 (by kernel_rfl));exact mv_is rfl rfl (by simp[execOp,go_sem,x79]) rfl (by simp)
           ·intro f a wz hin _ _ _ _ hd;have x80:(a.tmps[80]?).getD undef=.bool true:=(hin 80 (by rfl)).trans (hd 1 (by kernel_rfl));exact mv_is rfl rfl (by simp[execOp,go_sem,x80]) rfl (by simp)
           ·intro f a wz hin hout hC _ _ hd;have xg:(a.tmps[81]?).getD undef=.bool true:=(hin 81 (by rfl)).trans (hd 2 (by kernel_rfl));have x4:(a.tmps[4]?).getD undef=.pointer (some ⟨w.heap.size,0,none⟩):=hout 4 (by rfl);exact mg_is rfl (wanted_g rfl rfl xg) (by simp[execOp,go_sem,Result.andThen,x4,HEz.out wz hC]) rfl (by simp)
           ·intro f a wz hin hout _ _ _ hd;have xg:(a.tmps[81]?).getD undef=.bool true:=(hin 81 (by rfl)).trans (hd 2 (by kernel_rfl));have x10:(a.tmps[10]?).getD undef=.int .i64 (p:Int):=hout 10 (by rfl);exact mg_is rfl (wanted_g rfl rfl xg) (by simp[execOp,go_sem,x10]) rfl (by simp)
           ·intro f a wz hin hout _ _ _ hd;have xg:(a.tmps[81]?).getD undef=.bool true:=(hin 81 (by rfl)).trans (hd 2 (by kernel_rfl));have x12:(a.tmps[12]?).getD undef=.int .i64 (i:Int):=hout 12 (by rfl);exact mg_is rfl (wanted_g rfl rfl xg) (by simp[execOp,go_sem,x12]) rfl (by simp)
           ·intro f a wz hin hout _ _ _ hd;have xg:(a.tmps[81]?).getD undef=.bool true:=(hin 81 (by rfl)).trans (hd 2 (by kernel_rfl));have x3:(a.tmps[3]?).getD undef=.int .i64 r:=hout 3 (by rfl);exact mg_is rfl (wanted_g rfl rfl xg) (by simp[execOp,go_sem,x3]) rfl (by simp)
           ·intro f a wz hin _ _ _ _ hd;have xg:(a.tmps[81]?).getD undef=.bool true:=(hin 81 (by rfl)).trans (hd 2 (by kernel_rfl));have x85:(a.tmps[85]?).getD undef=.int .i64 r:=(hin 85 (by rfl)).trans (hd 6 (by kernel_rfl));exact mg_calli (f:=107) (args:=#[.int .i64 r]) rfl (wanted_g rfl rfl xg) (by simp[go_sem,x85]) rfl (by simp) ((HCP.out wz).mono (fun e w' ⟨h1,h2⟩=>⟨h1,h2 ▸ Chg.refl _ _⟩))
           ·intro f a wz hin hout _ _ _ hd;have xg:(a.tmps[81]?).getD undef=.bool true:=(hin 81 (by rfl)).trans (hd 2 (by kernel_rfl));have x9:(a.tmps[9]?).getD undef=.slice (some ⟨lb,lo,none⟩) sq.length cc:=hout 9 (by rfl);exact mg_is rfl (wanted_g rfl rfl xg) (by simp[execOp,go_sem,x9]) rfl (by simp)
           ·intro f a wz hin hout _ _ _ hd;have xg:(a.tmps[81]?).getD undef=.bool true:=(hin 81 (by rfl)).trans (hd 2 (by kernel_rfl));have x13:(a.tmps[13]?).getD undef=.int .i64 (kk:Int):=hout 13 (by rfl);exact mg_is rfl (wanted_g rfl rfl xg) (by simp[execOp,go_sem,x13]) rfl (by simp)
           ·intro f a wz hin _ _ _ _ hd;have xg:(a.tmps[81]?).getD undef=.bool true:=(hin 81 (by rfl)).trans (hd 2 (by kernel_rfl));have x88:(a.tmps[88]?).getD undef=.int .i64 (kk:Int):=(hin 88 (by rfl)).trans (hd 9 (by kernel_rfl));exact mg_is rfl (wanted_g rfl rfl xg) (by simp[execOp,go_sem,x88,hwk.out]) rfl (by simp)
           ·intro f a wz hin _ _ _ _ hd;have xg:(a.tmps[81]?).getD undef=.bool true:=(hin 81 (by rfl)).trans (hd 2 (by kernel_rfl));have x87:(a.tmps[87]?).getD undef=.slice (some ⟨lb,lo,none⟩) sq.length cc:=(hin 87 (by rfl)).trans (hd 8 (by kernel_rfl));have x89:(a.tmps[89]?).getD undef=.int .i64 (kp:Int):=(hin 89 (by rfl)).trans (hd 10 (by kernel_rfl));exact mg_is rfl (wanted_g rfl rfl xg) (by simp[execOp,go_sem,Result.andThen,x87,x89,hkpl]) rfl (by simp)
           ·intro f a wz hin _ hC _ _ hd;have xg:(a.tmps[81]?).getD undef=.bool true:=(hin 81 (by rfl)).trans (hd 2 (by kernel_rfl));have x90:(a.tmps[90]?).getD undef=.pointer (some ⟨lb,lo+kp,none⟩):=(hin 90 (by rfl)).trans (hd 11 (by kernel_rfl));exact mg_is rfl (wanted_g rfl rfl xg) (by simp[execOp,go_sem,Result.andThen,x90,(HY.out wz hC).1]) rfl (by simp)
           ·intro f a wz hin hout _ _ _ hd;have xg:(a.tmps[81]?).getD undef=.bool true:=(hin 81 (by rfl)).trans (hd 2 (by kernel_rfl));have x9:(a.tmps[9]?).getD undef=.slice (some ⟨lb,lo,none⟩) sq.length cc:=hout 9 (by rfl);exact mg_is rfl (wanted_g rfl rfl xg) (by simp[execOp,go_sem,x9]) rfl (by simp)
           ·intro f a wz hin hout _ _ _ hd;have xg:(a.tmps[81]?).getD undef=.bool true:=(hin 81 (by rfl)).trans (hd 2 (by kernel_rfl));have x13:(a.tmps[13]?).getD undef=.int .i64 (kk:Int):=hout 13 (by rfl);exact mg_is rfl (wanted_g rfl rfl xg) (by simp[execOp,go_sem,x13]) rfl (by simp)
           ·intro f a wz hin _ _ _ _ hd;have xg:(a.tmps[81]?).getD undef=.bool true:=(hin 81 (by rfl)).trans (hd 2 (by kernel_rfl));have x92:(a.tmps[92]?).getD undef=.slice (some ⟨lb,lo,none⟩) sq.length cc:=(hin 92 (by rfl)).trans (hd 13 (by kernel_rfl));have x93:(a.tmps[93]?).getD undef=.int .i64 (kk:Int):=(hin 93 (by rfl)).trans (hd 14 (by kernel_rfl));exact mg_is rfl (wanted_g rfl rfl xg) (by simp[execOp,go_sem,Result.andThen,x92,x93,hk2]) rfl (by simp)
           ·intro f a wz hin _ hC _ _ hd;have xg:(a.tmps[81]?).getD undef=.bool true:=(hin 81 (by rfl)).trans (hd 2 (by kernel_rfl));have x94:(a.tmps[94]?).getD undef=.pointer (some ⟨lb,lo+kk,none⟩):=(hin 94 (by rfl)).trans (hd 15 (by kernel_rfl));exact mg_is rfl (wanted_g rfl rfl xg) (by simp[execOp,go_sem,Result.andThen,x94,(HY.out wz hC).2]) rfl (by simp)
           ·intro f a wz hin _ hC _ _ hd;have xg:(a.tmps[81]?).getD undef=.bool true:=(hin 81 (by rfl)).trans (hd 2 (by kernel_rfl));have x82:(a.tmps[82]?).getD undef=.agg #[.slice z.cA z.cl.length z.cC,.slice z.gA z.gl.length z.gC]:=(hin 82 (by rfl)).trans (hd 3 (by kernel_rfl));have x83:(a.tmps[83]?).getD undef=.int .i64 (p:Int):=(hin 83 (by rfl)).trans (hd 4 (by kernel_rfl));have x84:(a.tmps[84]?).getD undef=.int .i64 (i:Int):=(hin 84 (by rfl)).trans (hd 5 (by kernel_rfl));have x86:(a.tmps[86]?).getD undef=.int .i64 (K:Int):=(hin 86 (by rfl)).trans (hd 7 (by kernel_rfl));have x91:(a.tmps[91]?).getD undef=.int .i64 x1:=(hin 91 (by rfl)).trans (hd 12 (by kernel_rfl));have x95:(a.tmps[95]?).getD undef=.int .i64 x2:=(hin 95 (by rfl)).trans (hd 16 (by kernel_rfl));refine mg_call (f:=110) (args:=#[.agg #[.slice z.cA z.cl.length z.cC,.slice z.gA z.gl.length z.gC],.int .i64 (p:Int),.int .i64 (i:Int),.int .i64 (K:Int),.int .i64 x1,.int .i64 x2]) rfl (wanted_g rfl rfl xg) (by simp[go_sem,x82,x83,x84,x86,x91,x95]) rfl (by simp) ((HF.out wz hC).mono ?_);rintro e w5 ⟨⟨b,rfl⟩,hc⟩;exact ⟨_,rfl,⟨b,rfl⟩,hc⟩
           ·intro f a wz hin _ _ _ _ hd;have xg:(a.tmps[81]?).getD undef=.bool true:=(hin 81 (by rfl)).trans (hd 2 (by kernel_rfl));obtain ⟨v96w,v96c,v96p⟩:=hd 17 (by kernel_rfl);have x96:=hin 96 (by rfl);obtain ⟨b,v96e⟩:=v96p;exact mg_su rfl (wanted_g rfl rfl xg) (v:=.bool (!b)) (by simp[execOp,go_sem,x96.trans v96e]) rfl ⟨_,rfl⟩ (Chg.refl _ _) (by simp)
           ·intro f a wz hin _ _ _ _ hd;have x81:(a.tmps[81]?).getD undef=.bool true:=(hin 81 (by rfl)).trans (hd 2 (by kernel_rfl));obtain ⟨v97w,v97c,v97p⟩:=hd 18 (by kernel_rfl);have x97:=hin 97 (by rfl);obtain ⟨b,v97e⟩:=v97p;exact mv_su rfl rfl (v:=.bool b) (by simp[execOp,go_sem,x81,x97.trans v97e]) rfl ⟨_,rfl⟩ (Chg.refl _ _) (by simp)
          ·intro f wz hC hd;obtain ⟨-,-,bf,hbf⟩:mvS 99 (fun _=>False) _ 19 (f 98) wz:=hd 19 (show 19 < 20 by omega);have C4:=zI (Ct CQ.out hC);clear hd hC HF HY HEz hwk;simp only[putAll,List.setIfInBounds_toArray,List.set_cons_succ,List.set_cons_zero,hbf];clear hbf;cases bf with
           | true=>
            go_wp2
            go_ret;exact ⟨⟨_,rfl,nob⟩,Ct C0.out (Ct C3.out C4.out)⟩
           | false=>
            go_wp2_with fail
            go_roundw
            case rel=>exact ⟨i+1,(i:Int),by omega,by go_num,by go_num,zI (.inr ⟨i,rfl,by omega,hnext.out⟩),C4⟩
            case measure=>(simp[intOf]<;>omega)
       ·obtain rfl:i=z.cl.length:=by omega
        have hfin:Hid (z.cl.length<=n+q.length/\z.gl.length=z.cl.length - 1):=⟨by omega,hgl.out⟩;go_wp2
        go_ret;exact ⟨⟨_,rfl,fun _=>hfin.out⟩,Ct C0.out (Ct C3.out CQ.out)⟩
  ·have hp:((z.cl.length:Int) - 1 < 0)=False:=eq_false (by omega);obtain ⟨bm,qm⟩:∃ b,((z.gl.length:Int) !=(z.cl.length:Int) - 1)=b:=⟨_,rfl⟩;cases bm with
   | true=>
    clear hL;go_wp2
    go_ret;exact ⟨⟨_,rfl,nob⟩,Ct C0.out C3.out⟩
   | false=>
    have hgl:Hid (z.gl.length=z.cl.length - 1):=by
     rw[bne_eq_false_iff_eq] at qm;show _=_;omega
    clear hL;go_wp2_with fail
    clear hp qm e0 e1;go_loopw [11] (fun x wr=>∃ j:Nat,j<=z.gl.length/\x=.int .i64 j/\Hid (∀ y ∈ z.gl.take j,0<=y/\y<=15)/\Hid (Chg (fun _=>False) w3 wr)) (fun x _=>z.gl.length - (intOf x).toNat)
    case atStart=>exact ⟨0,Nat.zero_le _,rfl,zI (by simp),Chg.refl _ _⟩
    case round=>
     obtain ⟨j,hj,rfl,hgs,CR⟩:=hrel;obtain ⟨e0,e1⟩:=HE.out wr (Ct C3.out CR.out);by_cases hlt:j < z.gl.length
     ·obtain ⟨x,hx⟩:∃ x,z.gl[j]?=some x:=⟨_,gG hlt⟩;obtain ⟨b0,o0,hA,_,c0⟩:=int_at (HZ.out wr (Ct C3.out CR.out)).gap hx;rw[hA] at e1;have hgs2:Hid (0<=x->x<=15->∀ y ∈ z.gl.take (j+1),0<=y/\y<=15):=fun h1 h2 y hy=>by
       obtain ⟨hk,rfl⟩:=List.getElem?_eq_some_iff.1 hx;rw[List.take_succ_eq_append_getElem hk] at hy;rcases List.mem_append.1 hy with hy | hy
       ·exact hgs.out y hy
       ·rw[List.mem_singleton.1 hy];exact ⟨h1,h2⟩
      have K1:=fun n:KW wr=>kept_cell e1 n
      have Y0:=fun n:KW wr=>kept_cell c0 n
      have HK:=zI (fun n:KW wr=>kept_same (HCP.out n.w));clear hx hA c0;by_cases h0:x < 0
      ·have d0:decide (x < 0)=true:=by simpa using h0
       clear h0;go_wp2_with fail
       refine wp_region_kept wr (Chg.refl _ _) (by kernel_rfl) (by kernel_rfl) ?_;repeat (go_big_quiet_step (with_reducible exact HK.out _))
       refine wpQuiet_nil ?_;rintro w4' ⟨n4,rfl⟩;have C4:=zI (Ct CR.out n4.h);obtain ⟨w5,hw5⟩:∃ w5,w5=n4.w:=⟨_,rfl⟩;rw[<-hw5] at C4 |-;clear hw5 K1 Y0 HK;go_wp2
       go_ret;exact ⟨⟨_,rfl,nob⟩,Ct C0.out (Ct C3.out C4.out)⟩
      ·have d0:decide (x < 0)=false:=by simpa using h0
       by_cases h1:(K:Int) < x
       ·have dk:decide ((K:Int) < x)=true:=by simpa using h1
        clear h0 h1;go_wp2_with fail
        refine wp_region_kept wr (Chg.refl _ _) (by kernel_rfl) (by kernel_rfl) ?_;repeat (go_big_quiet_step (with_reducible exact HK.out _))
        refine wpQuiet_nil ?_;rintro w4' ⟨n4,rfl⟩;have C4:=zI (Ct CR.out n4.h);obtain ⟨w5,hw5⟩:∃ w5,w5=n4.w:=⟨_,rfl⟩;rw[<-hw5] at C4 |-;clear hw5 K1 Y0 HK;go_wp2
        go_ret;exact ⟨⟨_,rfl,nob⟩,Ct C0.out (Ct C3.out C4.out)⟩
       ·have dk:decide ((K:Int) < x)=false:=by simpa using h1
        have hgs3:=zI (hgs2.out (by omega) (by omega));clear h0 h1;go_wp2_with fail
        refine wp_region_kept wr (Chg.refl _ _) (by kernel_rfl) (by kernel_rfl) ?_;repeat (go_big_quiet_step (with_reducible exact HK.out _))
        refine wpQuiet_nil ?_;rintro w4' ⟨n4,rfl⟩;have C4:=zI (Ct CR.out n4.h);obtain ⟨w5,hw5⟩:∃ w5,w5=n4.w:=⟨_,rfl⟩;rw[<-hw5] at C4 |-;clear hw5 K1 Y0 HK;go_wp2_with fail
        go_roundw
        case rel=>exact ⟨j+1,by omega,by go_num,hgs3,C4⟩
        case measure=>(simp[intOf]<;>omega)
     ·obtain rfl:j=z.gl.length:=by omega
      have hgs4:Hid (∀ y ∈ z.gl,0<=y/\y<=15):=by have:=hgs.out;rw[List.take_length] at this;exact this
      clear hgs;go_wp2_with fail
      clear e0 e1;go_loopw [12,13,10] (fun x _ v wt=>∃ (i:Nat) (last:Int),i<=z.cl.length/\x=.int .i64 i/\v=.int .i64 last/\Hid (last=-1\/∃ p:Nat,last=p/\p < i/\1<=cntC (z.cl.take i))/\Hid (Chg (fun _=>False) w3 wt)) (fun x _ _ _=>z.cl.length - (intOf x).toNat)
      case atStart=>exact ⟨0,-1,Nat.zero_le _,rfl,rfl,zI (.inl rfl),CR⟩
      case round=>
       rename World=>wq
       obtain ⟨i,last,hi,rfl,rfl,hlast,CQ⟩:=hrel;have HEq:=zI (fun (w':World) (h:Chg (fun _=>False) wq w')=>HE.out w' (Ct C3.out (Ct CQ.out h)));obtain ⟨e0,e1⟩:=HEq.out wq (Chg.refl _ _);by_cases hlt:i < z.cl.length
       ·obtain ⟨⟨at',cs⟩,hx⟩:∃ x,z.cl[i]?=some x:=⟨_,gG hlt⟩;obtain ⟨b0,o0,hA,_,c0,c1⟩:=so_at (HZ.out wq (Ct C3.out CQ.out)).cls hx;rw[hA] at e0;have hlater:Hid (∀ p:Nat,p < i->1<=cntC (z.cl.take i)->1<=cntC (z.cl.take (i+1))):=fun p _ h=>by
         unfold cntC at h |-;rw[countP_take hx];omega
        by_cases hc0:cs < 0
        ·have dc:decide (cs < 0)=true:=by simpa using hc0
         clear hx hA hc0;go_wp2_with fail
         go_roundw
         case rel=>exact ⟨i+1,last,by omega,by go_num,rfl,zI (by rcases hlast.out with h | ⟨p,h1,h2,h3⟩;exact .inl h;exact .inr ⟨p,h1,by omega,hlater.out p h2 h3⟩),CQ⟩
         case measure=>(simp[intOf]<;>omega)
        ·have dc:decide (cs < 0)=false:=by simpa using hc0
         obtain ⟨hk1,hk2⟩:=cnt_lt hok.out hx (by show 0<=cs;omega);have hnext:Hid (1<=cntC (z.cl.take (i+1))):=cnt_pos (p:=i) hx (by show 0<=cs;omega) (by omega);obtain ⟨kk,hkk⟩:∃ kk,kk=cntC (z.cl.take i):=⟨_,rfl⟩;rw[<-hkk] at hk1 hk2 hlast;have hk1':cs=(kk:Int):=hk1;subst hk1';replace hkk:=zI hkk;clear hx hA hk1 hc0 hlater;rcases hlast.out with hl1 | ⟨p,hl1,hl2,hl3⟩
         ·subst hl1;go_wp2_with fail
          refine wp_region_kept wq (Chg.refl _ _) (by kernel_rfl) (by kernel_rfl) ?_;repeat (go_big_quiet_step (fail))
          refine wpQuiet_nil ?_;rintro w4' ⟨n4,rfl⟩;have C4:=zI (Ct CQ.out n4.h);obtain ⟨w5,hw5⟩:∃ w5,w5=n4.w:=⟨_,rfl⟩;rw[<-hw5] at C4 |-;clear hw5;go_wp2_with fail
          go_roundw
          case rel=>exact ⟨i+1,(i:Int),by omega,by go_num,by go_num,zI (.inr ⟨i,rfl,by omega,hnext.out⟩),C4⟩
          case measure=>(simp[intOf]<;>omega)
         ·subst hl1;obtain ⟨kp,hkp⟩:∃ kp,kk=kp+1:=⟨kk - 1,by omega⟩;have hwk:Hid (IntKind.i64.wrap ((kk:Int) - 1)=(kp:Int)):=by show _=_;rw[IntKind.wrap_i64];omega
          have hkpl:kp < sq.length:=by omega
          obtain ⟨x1,hx1⟩:∃ x,sq[kp]?=some x:=⟨_,gG hkpl⟩;obtain ⟨x2,hx2⟩:∃ x,sq[kk]?=some x:=⟨_,gG hk2⟩;obtain ⟨lb,lo,hAc,_,-⟩:=int_at (HQ3.out wq CQ.out) hx1;have HY:Hid (∀ w',Chg (fun _=>False) wq w'->w'.cell? ⟨lb,lo+kp,none⟩=some (.int .i64 x1)/\w'.cell? ⟨lb,lo+kk,none⟩=some (.int .i64 x2)):=fun w' h=>by
           have hh:=Ct CQ.out h;obtain ⟨b1,o1,E1,_,g1⟩:=int_at (HQ3.out w' hh) hx1;obtain ⟨b2,o2,E2,_,g2⟩:=int_at (HQ3.out w' hh) hx2;rw[hAc] at E1 E2;injection E1 with E1;injection E1 with E11 E12 _;injection E2 with E2;injection E2 with E21 E22 _;subst E11;subst E12;subst E21;subst E22;exact ⟨g1,g2⟩
          have HEz:=zI (fun (w':World) (h:Chg (fun _=>False) wq w')=>HEq.out w' h);have HF:=zI (fun (w':World) (h:Chg (fun _=>False) wq w')=>HFT.out w' (Ct C3.out (Ct CQ.out h)) p i (K:Int) x1 x2 (by omega) (by have:=hgl.out;omega) (by omega) hgs4.out);have dp:decide ((0:Int)<=(p:Int))=true:=by rw[dT];omega
          clear hx1 hx2 hl3;replace hAc:=zI hAc;have hT9:=hAc.out;rw[hT9];clear hT9;replace hkp:=zI hkp;go_wp2_with fail
          clear e0 e1 c0 c1;refine region_mv (by kernel_rfl) [some 79,some 80,some 81,some 82,some 83,some 84,some 85,some 86,some 87,some 88,some 89,some 90,some 91,some 92,some 93,some 94,some 95,some 96,some 97,some 98] [79,80,81,82,83,84,85,86,87,88,89,90,91,92,93,94,95,96,97,98] [.is (.int .i64 (p:Int)),.is (.bool true),.is (.bool true),.is (.agg #[.slice z.cA z.cl.length z.cC,.slice z.gA z.gl.length z.gC]),.is (.int .i64 (p:Int)),.is (.int .i64 (i:Int)),.is (.int .i64 r),.is (.int .i64 (K:Int)),.is (.slice (some ⟨lb,lo,none⟩) sq.length cc),.is (.int .i64 (kk:Int)),.is (.int .i64 (kp:Int)),.is (.pointer (some ⟨lb,lo+kp,none⟩)),.is (.int .i64 x1),.is (.slice (some ⟨lb,lo,none⟩) sq.length cc),.is (.int .i64 (kk:Int)),.is (.pointer (some ⟨lb,lo+kk,none⟩)),.is (.int .i64 x2),.su (fun v _=>∃ b:Bool,v=.bool b),.su (fun v _=>∃ b:Bool,v=.bool b),.su (fun v _=>∃ b:Bool,v=.bool b)] 99 (fun _=>False) (by kernel_rfl) (by kernel_rfl) ?_ ?_
          ·refine ⟨?_,?_,?_,?_,?_,?_,?_,?_,?_,?_,?_,?_,?_,?_,?_,?_,?_,?_,?_,?_,trivial⟩
           ·intro f a wz _ hout _ _ _ _;have x10:(a.tmps[10]?).getD undef=.int .i64 (p:Int):=hout 10 (by rfl);exact mv_is rfl rfl (by simp[execOp,go_sem,x10]) rfl (by simp)
           ·intro f a wz hin _ _ _ _ hd;have x79:(a.tmps[79]?).getD undef=.int .i64 (p:Int):=(hin 79 (by rfl)).trans (hd 0 (by kernel_rfl));exact mv_is rfl rfl (by simp[execOp,go_sem,x79]) rfl (by simp)
           ·intro f a wz hin _ _ _ _ hd;have x80:(a.tmps[80]?).getD undef=.bool true:=(hin 80 (by rfl)).trans (hd 1 (by kernel_rfl));exact mv_is rfl rfl (by simp[execOp,go_sem,x80]) rfl (by simp)
           ·intro f a wz hin hout hC _ _ hd;have xg:(a.tmps[81]?).getD undef=.bool true:=(hin 81 (by rfl)).trans (hd 2 (by kernel_rfl));have x4:(a.tmps[4]?).getD undef=.pointer (some ⟨w.heap.size,0,none⟩):=hout 4 (by rfl);exact mg_is rfl (wanted_g rfl rfl xg) (by simp[execOp,go_sem,Result.andThen,x4,HEz.out wz hC]) rfl (by simp)
           ·intro f a wz hin hout _ _ _ hd;have xg:(a.tmps[81]?).getD undef=.bool true:=(hin 81 (by rfl)).trans (hd 2 (by kernel_rfl));have x10:(a.tmps[10]?).getD undef=.int .i64 (p:Int):=hout 10 (by rfl);exact mg_is rfl (wanted_g rfl rfl xg) (by simp[execOp,go_sem,x10]) rfl (by simp)
           ·intro f a wz hin hout _ _ _ hd;have xg:(a.tmps[81]?).getD undef=.bool true:=(hin 81 (by rfl)).trans (hd 2 (by kernel_rfl));have x12:(a.tmps[12]?).getD undef=.int .i64 (i:Int):=hout 12 (by rfl);exact mg_is rfl (wanted_g rfl rfl xg) (by simp[execOp,go_sem,x12]) rfl (by simp)
           ·intro f a wz hin hout _ _ _ hd;have xg:(a.tmps[81]?).getD undef=.bool true:=(hin 81 (by rfl)).trans (hd 2 (by kernel_rfl));have x3:(a.tmps[3]?).getD undef=.int .i64 r:=hout 3 (by rfl);exact mg_is rfl (wanted_g rfl rfl xg) (by simp[execOp,go_sem,x3]) rfl (by simp)
           ·intro f a wz hin _ _ _ _ hd;have xg:(a.tmps[81]?).getD undef=.bool true:=(hin 81 (by rfl)).trans (hd 2 (by kernel_rfl));have x85:(a.tmps[85]?).getD undef=.int .i64 r:=(hin 85 (by rfl)).trans (hd 6 (by kernel_rfl));exact mg_calli (f:=107) (args:=#[.int .i64 r]) rfl (wanted_g rfl rfl xg) (by simp[go_sem,x85]) rfl (by simp) ((HCP.out wz).mono (fun e w' ⟨h1,h2⟩=>⟨h1,h2 ▸ Chg.refl _ _⟩))
           ·intro f a wz hin hout _ _ _ hd;have xg:(a.tmps[81]?).getD undef=.bool true:=(hin 81 (by rfl)).trans (hd 2 (by kernel_rfl));have x9:(a.tmps[9]?).getD undef=.slice (some ⟨lb,lo,none⟩) sq.length cc:=hout 9 (by rfl);exact mg_is rfl (wanted_g rfl rfl xg) (by simp[execOp,go_sem,x9]) rfl (by simp)
           ·intro f a wz hin hout _ _ _ hd;have xg:(a.tmps[81]?).getD undef=.bool true:=(hin 81 (by rfl)).trans (hd 2 (by kernel_rfl));have x13:(a.tmps[13]?).getD undef=.int .i64 (kk:Int):=hout 13 (by rfl);exact mg_is rfl (wanted_g rfl rfl xg) (by simp[execOp,go_sem,x13]) rfl (by simp)
           ·intro f a wz hin _ _ _ _ hd;have xg:(a.tmps[81]?).getD undef=.bool true:=(hin 81 (by rfl)).trans (hd 2 (by kernel_rfl));have x88:(a.tmps[88]?).getD undef=.int .i64 (kk:Int):=(hin 88 (by rfl)).trans (hd 9 (by kernel_rfl));exact mg_is rfl (wanted_g rfl rfl xg) (by simp[execOp,go_sem,x88,hwk.out]) rfl (by simp)
           ·intro f a wz hin _ _ _ _ hd;have xg:(a.tmps[81]?).getD undef=.bool true:=(hin 81 (by rfl)).trans (hd 2 (by kernel_rfl));have x87:(a.tmps[87]?).getD undef=.slice (some ⟨lb,lo,none⟩) sq.length cc:=(hin 87 (by rfl)).trans (hd 8 (by kernel_rfl));have x89:(a.tmps[89]?).getD undef=.int .i64 (kp:Int):=(hin 89 (by rfl)).trans (hd 10 (by kernel_rfl));exact mg_is rfl (wanted_g rfl rfl xg) (by simp[execOp,go_sem,Result.andThen,x87,x89,hkpl]) rfl (by simp)
           ·intro f a wz hin _ hC _ _ hd;have xg:(a.tmps[81]?).getD undef=.bool true:=(hin 81 (by rfl)).trans (hd 2 (by kernel_rfl));have x90:(a.tmps[90]?).getD undef=.pointer (some ⟨lb,lo+kp,none⟩):=(hin 90 (by rfl)).trans (hd 11 (by kernel_rfl));exact mg_is rfl (wanted_g rfl rfl xg) (by simp[execOp,go_sem,Result.andThen,x90,(HY.out wz hC).1]) rfl (by simp)
           ·intro f a wz hin hout _ _ _ hd;have xg:(a.tmps[81]?).getD undef=.bool true:=(hin 81 (by rfl)).trans (hd 2 (by kernel_rfl));have x9:(a.tmps[9]?).getD undef=.slice (some ⟨lb,lo,none⟩) sq.length cc:=hout 9 (by rfl);exact mg_is rfl (wanted_g rfl rfl xg) (by simp[execOp,go_sem,x9]) rfl (by simp)
           ·intro f a wz hin hout _ _ _ hd;have xg:(a.tmps[81]?).getD undef=.bool true:=(hin 81 (by rfl)).trans (hd 2 (by kernel_rfl));have x13:(a.tmps[13]?).getD undef=.int .i64 (kk:Int):=hout 13 (by rfl);exact mg_is rfl (wanted_g rfl rfl xg) (by simp[execOp,go_sem,x13]) rfl (by simp)
           ·intro f a wz hin _ _ _ _ hd;have xg:(a.tmps[81]?).getD undef=.bool true:=(hin 81 (by rfl)).trans (hd 2 (by kernel_rfl));have x92:(a.tmps[92]?).getD undef=.slice (some ⟨lb,lo,none⟩) sq.length cc:=(hin 92 (by rfl)).trans (hd 13 (by kernel_rfl));have x93:(a.tmps[93]?).getD undef=.int .i64 (kk:Int):=(hin 93 (by rfl)).trans (hd 14 (by kernel_rfl));exact mg_is rfl (wanted_g rfl rfl xg) (by simp[execOp,go_sem,Result.andThen,x92,x93,hk2]) rfl (by simp)
           ·intro f a wz hin _ hC _ _ hd;have xg:(a.tmps[81]?).getD undef=.bool true:=(hin 81 (by rfl)).trans (hd 2 (by kernel_rfl));have x94:(a.tmps[94]?).getD undef=.pointer (some ⟨lb,lo+kk,none⟩):=(hin 94 (by rfl)).trans (hd 15 (by kernel_rfl));exact mg_is rfl (wanted_g rfl rfl xg) (by simp[execOp,go_sem,Result.andThen,x94,(HY.out wz hC).2]) rfl (by simp)
           ·intro f a wz hin _ hC _ _ hd;have xg:(a.tmps[81]?).getD undef=.bool true:=(hin 81 (by rfl)).trans (hd 2 (by kernel_rfl));have x82:(a.tmps[82]?).getD undef=.agg #[.slice z.cA z.cl.length z.cC,.slice z.gA z.gl.length z.gC]:=(hin 82 (by rfl)).trans (hd 3 (by kernel_rfl));have x83:(a.tmps[83]?).getD undef=.int .i64 (p:Int):=(hin 83 (by rfl)).trans (hd 4 (by kernel_rfl));have x84:(a.tmps[84]?).getD undef=.int .i64 (i:Int):=(hin 84 (by rfl)).trans (hd 5 (by kernel_rfl));have x86:(a.tmps[86]?).getD undef=.int .i64 (K:Int):=(hin 86 (by rfl)).trans (hd 7 (by kernel_rfl));have x91:(a.tmps[91]?).getD undef=.int .i64 x1:=(hin 91 (by rfl)).trans (hd 12 (by kernel_rfl));have x95:(a.tmps[95]?).getD undef=.int .i64 x2:=(hin 95 (by rfl)).trans (hd 16 (by kernel_rfl));refine mg_call (f:=110) (args:=#[.agg #[.slice z.cA z.cl.length z.cC,.slice z.gA z.gl.length z.gC],.int .i64 (p:Int),.int .i64 (i:Int),.int .i64 (K:Int),.int .i64 x1,.int .i64 x2]) rfl (wanted_g rfl rfl xg) (by simp[go_sem,x82,x83,x84,x86,x91,x95]) rfl (by simp) ((HF.out wz hC).mono ?_);rintro e w5 ⟨⟨b,rfl⟩,hc⟩;exact ⟨_,rfl,⟨b,rfl⟩,hc⟩
           ·intro f a wz hin _ _ _ _ hd;have xg:(a.tmps[81]?).getD undef=.bool true:=(hin 81 (by rfl)).trans (hd 2 (by kernel_rfl));obtain ⟨v96w,v96c,v96p⟩:=hd 17 (by kernel_rfl);have x96:=hin 96 (by rfl);obtain ⟨b,v96e⟩:=v96p;exact mg_su rfl (wanted_g rfl rfl xg) (v:=.bool (!b)) (by simp[execOp,go_sem,x96.trans v96e]) rfl ⟨_,rfl⟩ (Chg.refl _ _) (by simp)
           ·intro f a wz hin _ _ _ _ hd;have x81:(a.tmps[81]?).getD undef=.bool true:=(hin 81 (by rfl)).trans (hd 2 (by kernel_rfl));obtain ⟨v97w,v97c,v97p⟩:=hd 18 (by kernel_rfl);have x97:=hin 97 (by rfl);obtain ⟨b,v97e⟩:=v97p;exact mv_su rfl rfl (v:=.bool b) (by simp[execOp,go_sem,x81,x97.trans v97e]) rfl ⟨_,rfl⟩ (Chg.refl _ _) (by simp)
          ·intro f wz hC hd;obtain ⟨-,-,bf,hbf⟩:mvS 99 (fun _=>False) _ 19 (f 98) wz:=hd 19 (show 19 < 20 by omega);have C4:=zI (Ct CQ.out hC);clear hd hC HF HY HEz hwk;simp only[putAll,List.setIfInBounds_toArray,List.set_cons_succ,List.set_cons_zero,hbf];clear hbf;cases bf with
           | true=>
            go_wp2
            go_ret;exact ⟨⟨_,rfl,nob⟩,Ct C0.out (Ct C3.out C4.out)⟩
           | false=>
            go_wp2_with fail
            go_roundw
            case rel=>exact ⟨i+1,(i:Int),by omega,by go_num,by go_num,zI (.inr ⟨i,rfl,by omega,hnext.out⟩),C4⟩
            case measure=>(simp[intOf]<;>omega)
       ·obtain rfl:i=z.cl.length:=by omega
        have hfin:Hid (z.cl.length<=n+q.length/\z.gl.length=z.cl.length - 1):=⟨by omega,hgl.out⟩;go_wp2
        go_ret;exact ⟨⟨_,rfl,fun _=>hfin.out⟩,Ct C0.out (Ct C3.out CQ.out)⟩
end
end Go.Proofs.YthohgagkjnbkbaaGreat
