/- FragTrue, part 44: FrZl RgMove2 FrZm. Each theorem says what a function does, or a plain fact, under its own premises alone. -/
import Derived.Test.YthohgagkjnbkbaaGreatP43
set_option maxRecDepth 100000
set_option maxHeartbeats 16000000
namespace Go.Proofs.YthohgagkjnbkbaaGreat
section
open Go.RowKit
def boxLen (w:World) (g:Nat):Nat:=match w.cell? ⟨g,0,none⟩ with
 | some (.slice _ n _)=>n
 | _=>0
theorem boxLen_blk {w:World} {g:Nat} {z:ZC} (h:Blk w g 88 (zA z)):boxLen w g=z.cl.length:=by
 unfold boxLen;rw[(zcells h).1]
theorem ZT.setK {w w':World} {z:ZC} {g c:Nat} {cl:List (Int × Int)} (h:ZT w z) (hc:Chg (fun _=>False) w w') (hk:KRow w' g cl) (h1:cl.length<=c) (h2:c<=maxLen) (hf:cl.length<=100000) (hr:∀ x ∈ cl,inR x.1/\inR x.2):ZT w' ⟨some ⟨g,0,none⟩,cl,c,z.gA,z.gl,z.gC⟩:=by
 have h':=h.later hc;refine ⟨⟨hk.rd,h'.ok.gap,⟨hf,h'.ok.few.2⟩,hr,h'.ok.gin⟩,fun ad a _=>?_,h'.g,h1,h2,h'.cap.2.2.1,h'.cap.2.2.2⟩;injection a with a;subst a;exact hk.blk
theorem drop_any (w:World) (z:ZC) (aa r:Int) (hz:ZT w z) (hl:z.cl.length<=100/\z.gl.length<=100):
  Calls Tryz.prog 85 #[.agg (zA z),.int .i64 aa,.int .i64 r] w fun e w'=>(∃ v,e=.returned v/\ZoR z.cl.length z.gl.length v w')/\Chg (fun _=>False) w w':=by
 obtain ⟨i4,hi4,z40,z41,z42⟩:=info_3 cls_info;obtain ⟨h1,h2⟩:=cells2 w 88 88 (zA z) #[.slice none 0 0,.slice none 0 0];have C0:Hid (Chg (fun _=>False) w ((w.alloc (.cells (zA z) 88)).alloc (.cells #[.slice none 0 0,.slice none 0 0] 88))):=chg2 w (.cells (zA z) 88) (.cells #[.slice none 0 0,.slice none 0 0] 88);obtain ⟨w1,hw1⟩:∃ w1,w1=((w.alloc (.cells (zA z) 88)).alloc (.cells #[.slice none 0 0,.slice none 0 0] 88)):=⟨_,rfl⟩;have hs1:w1.heap.size=w.heap.size+2:=by rw[hw1];simp
 rw[<-hw1] at C0 h1 h2;have HBz:=zI h1;have HBr:=zI h2;have HT0:=zI (hz.later C0.out);obtain ⟨l1,l2⟩:=hl;obtain ⟨e0,e1⟩:=zcells h1;have r0:w1.cell? ⟨w.heap.size+1,0,none⟩=some (.slice none 0 0):=by rw[h2.cell];rfl
 have r1:w1.cell? ⟨w.heap.size+1,1,none⟩=some (.slice none 0 0):=by rw[h2.cell];rfl
 have rf:=h2.frozen;have hR1:=zI (cells2 w 88 88 (zA z) (zA z));have hsame:Hid (ZoR z.cl.length z.gl.length (.agg (zA z)) ((w.alloc (.cells (zA z) 88)).alloc (.cells (zA z) 88))):=⟨z,rfl,hz.later (chg2 w _ _),Nat.le_refl _,Nat.le_refl _⟩;clear h1 h2 hz;unfold zA at hw1 |-;obtain ⟨bm,hbm⟩:∃ b:Bool,(b=true<->z.gl.length ≠ z.cl.length - 1)/\(z.cl.length=0->((z.gl.length:Int) !=0)=b)/\(z.cl.length ≠ 0->((z.gl.length:Int) !=(z.cl.length:Int) - 1)=b):=by
  refine ⟨decide (z.gl.length ≠ z.cl.length - 1),by simp,fun h=>?_,fun h=>?_⟩
  ·rw[Bool.eq_iff_iff,bne_iff_ne,dT];omega
  ·rw[Bool.eq_iff_iff,bne_iff_ne,dT];omega
 obtain ⟨hb1,hb2,hb3⟩:=hbm;by_cases hL:z.cl.length=0
 ·have hp:((z.cl.length:Int) - 1 < 0)=True:=eq_true (by omega);have hbe:=hb2 hL;have hbN:(z.gl.length !=0)=bm:=by rw[<-hbe,Bool.eq_iff_iff,bne_iff_ne,bne_iff_ne];omega
  clear hb2 hb3 hL;cases bm with
  | true=>
   clear hb1;go_enter Tryz.func85,Tryz.ntmps85;go_wp2_with fail
   exact bodyPost_ret (results_cell_row rfl _ _ _ _ _ _ _ rfl hR1.out.2 Tryz.underlying88 rfl (by kernel_rfl)) rfl ⟨⟨_,rfl,hsame.out⟩,chg2 w _ _⟩
  | false=>
   have hgl:Hid (z.gl.length=z.cl.length - 1):=by
    show _=_;rcases Nat.decEq z.gl.length (z.cl.length - 1) with h | h
    ·exact absurd (hb1.2 h) (by decide)
    ·exact h
   clear hb1 hsame hR1;go_enter Tryz.func85,Tryz.ntmps85;go_wp2_with fail
   rw[<-hw1];clear hw1 e0 e1 r0 r1 rf hp hbe;go_loopw [7,8] (fun x _ wr=>∃ (i:Nat) (y:ZC),i<=y.cl.length/\x=.int .i64 i/\y.cl.length<=z.cl.length/\y.gl.length=y.cl.length - 1/\Hid (ZT wr y)/\Hid (Blk wr w.heap.size 88 (zA y))/\Hid (Blk wr (w.heap.size+1) 88 #[.slice none 0 0,.slice none 0 0])/\Hid (Chg (fun k=>k=w.heap.size) w1 wr)) (fun x _ wr=>boxLen wr w.heap.size - (intOf x).toNat)
   case atStart=>exact ⟨0,z,Nat.zero_le _,rfl,Nat.le_refl _,hgl.out,HT0,HBz,HBr,Chg.refl _ _⟩
   case round=>
    obtain ⟨i,y,hi,rfl,hyl,hyg,HT,HB,HR,CR⟩:=hrel;have hbl:=zI (boxLen_blk HB.out);obtain ⟨e0,e1⟩:=zcells HB.out;have hef:=HB.out.frozen;replace hyg:=zI hyg;by_cases hlt:i < y.cl.length
    ·have hi':=zI hlt;obtain ⟨x,hx⟩:∃ x,y.cl[i]?=some x:=⟨_,gG hlt⟩;obtain ⟨b0,o0,hA,_,c0,c1⟩:=so_at HT.out.ok.cls hx;have hxR:=zI (HT.out.ok.cin x (List.mem_of_getElem? hx));have HH:=zI (refHas_any wr x.1 aa hxR.out.1);have hAh:=zI hA;have e0':=e0;rw[hA] at e0';obtain ⟨hb,hhb⟩:∃ b,b=hasB x.1 aa:=⟨_,rfl⟩;rw[<-hhb] at HH;replace hx:=zI hx;clear hhb e0 hA;cases hb with
     | false=>
      go_wp2_with (go_at_call 99;refine HH.out.mono ?_;rintro e w' ⟨rfl,rfl⟩)
      go_roundw
      case rel=>exact ⟨i+1,y,by omega,by go_num,hyl,hyg.out,HT,HB,HR,CR⟩
      case measure=>(rw[hbl.out];simp[intOf]<;>omega)
     | true=>
      have hyl100:y.cl.length<=100:=by omega
      have e0'':=(zcells (HB.out.chg (((Chg.refl (fun _=>False) wr).alloc (.cells #[] 194))) (fun h=>h))).1;rw[hAh.out] at e0'';have hPu:=zI (fun w'=>put14_any w' x.1 aa false hxR.out.1);have hpR:=zI (puN_inR x.1 aa false);obtain ⟨pv,hpv⟩:∃ pv,pv=puN x.1 aa false:=⟨_,rfl⟩;rw[<-hpv] at hPu hpR;clear hpv;go_wp2_with (first | (go_at_call 99;refine HH.out.mono ?_;rintro e w' ⟨rfl,rfl⟩) | (at_builtin;refine wpList_copy rfl (.tmp 35) (.tmp 37) 86 rfl wr.heap.size 194 i4 _ 2 16 Tryz.underlying86 hi4 z40 z41 z42 rfl (by omega) (.slice (some ⟨wr.heap.size,0,none⟩) 0 0) 0 [] rfl (by exact World.ownsRow_lit wr #[] 0 (Nat.le_refl _) (Nat.zero_le _) rfl) (some ⟨b0,o0,none⟩) y.cl.length y.cC wr.heap.size (y.cl.flatMap soC) rfl (by rw[soC_len]) (by have h9:=HT.out.ok.cls.alloc (Nat.le_refl _) (.cells #[] 194);rw[hAh.out] at h9;exact h9) (soC_one _) (by unfold maxLen;omega) (by omega) (by simp) ?_;intro v3 w3 hO3 hg3;have C3:Hid (Chg (fun _=>False) wr w3):=(Chg.trans ((Chg.refl (fun _=>False) wr).alloc (.cells #[] 194)) (Chg.grown (S:=fun k=>k=wr.heap.size) (Chg.refl _ _) hg3 (fun k hk=>.inl (by simp[Value.ownBlock] at hk;omega))) (fun i hi e=>by omega));rw[Nat.zero_add,List.nil_append] at hO3;obtain ⟨g,c,rfl,hgw,hcap1,hcap2,hK3'⟩:=own_formK hO3 (by omega);have hK3:=zI hK3';clear hO3 hg3 hK3';obtain ⟨k0,k1,kf⟩:=hK3.out.cells hx.out))
      go_at_call 88
      refine (hPu.out w3).mono ?_;rintro e w4 ⟨rfl,hC4⟩;have hK4:=hK3.out.chg hC4 (fun h=>h);have C4:=zI (Ct C3.out hC4);have hB4:=zI (HB.out.chg C4.out (fun h=>h));have hR4:=zI (HR.out.chg C4.out (fun h=>h));have hwz:w.heap.size < wr.heap.size:=HB.out.lt;clear k0 k1 kf e0' e0'' e1 hef c0 c1;obtain ⟨k0,k1,kf⟩:=hK4.cells hx.out;have hK5:=zI (hK4.set hx.out pv);have C5:Hid (Chg (fun _=>False) wr (w4.setCell ⟨g,i * 2,none⟩ (.int .i64 pv))):=C4.out.setCell (.inr hgw) _;obtain ⟨w5,hw5⟩:∃ w5,w5=w4.setCell ⟨g,i * 2,none⟩ (.int .i64 pv):=⟨_,rfl⟩;have hB5:=zI (HB.out.chg C5.out (fun h=>h));have hR5:=zI (HR.out.chg C5.out (fun h=>h));rw[<-hw5] at hK5 C5 hB5 hR5;obtain ⟨y0,y1⟩:=zcells hB5.out;have yf:=hB5.out.frozen;rw[hw5] at y0 y1 yf;have hls:(y.cl.set i (pv,x.2)).length=y.cl.length:=List.length_set;obtain ⟨y2,hy2⟩:∃ y2:ZC,y2=⟨some ⟨g,0,none⟩,y.cl.set i (pv,x.2),c,y.gA,y.gl,y.gC⟩:=⟨_,rfl⟩;have hT5:ZT w5 y2:=by
       rw[hy2];exact HT.out.setK C5.out hK5.out (by rw[hls];exact hcap1) hcap2 (by rw[hls];omega) (fun q hq=>by
        rcases mem_set_ hq with rfl | hq
        ·exact ⟨hpR.out,hxR.out.2⟩
        ·exact HT.out.ok.cin q hq)
      have hst:=blk_st2 hB5.out (.slice (some ⟨g,0,none⟩) y.cl.length c) (.slice y.gA y.gl.length y.gC);have hza:#[Value.slice (some ⟨g,0,none⟩) y.cl.length c,Value.slice y.gA y.gl.length y.gC]=zA y2:=by rw[hy2];unfold zA;rw[hls]
      rw[hza] at hst;have hT6:=zI (hT5.far hst.2 (fun k hk _=>⟨88,zA y,hk ▸ hB5.out,by decide,by decide⟩));have hB6:=zI hst.1;have hR6:=zI (hR5.out.chg hst.2 (by omega));have CR6:=zI (Ct (Chg.trans CR.out C5.out (fun _ _ h=>h.elim)) hst.2);have hK6:=hK5.out.chg hst.2 (by omega);have hl2:y2.cl.length=y.cl.length:=by rw[hy2];exact hls
      have hg2:y2.gl.length=y.gl.length:=by rw[hy2]
      have hxs:(y.cl.set i (pv,x.2))[i]?=some (pv,x.2):=List.getElem?_set_self hlt;obtain ⟨u0,u1,-⟩:=hK6.cells hxs;obtain ⟨u2,u3⟩:=zcells hB6.out;have uf:=hB6.out.frozen;rw[hl2] at u2;rw[hg2] at u3;have u2':((w5.setCell ⟨w.heap.size,0,none⟩ (.slice (some ⟨g,0,none⟩) y.cl.length c)).setCell ⟨w.heap.size,1,none⟩ (.slice y.gA y.gl.length y.gC)).cell? ⟨w.heap.size,0,none⟩=some (.slice (some ⟨g,0,none⟩) y.cl.length c):=by rw[u2,hy2]
      have u3':((w5.setCell ⟨w.heap.size,0,none⟩ (.slice (some ⟨g,0,none⟩) y.cl.length c)).setCell ⟨w.heap.size,1,none⟩ (.slice y.gA y.gl.length y.gC)).cell? ⟨w.heap.size,1,none⟩=some (.slice y.gA y.gl.length y.gC):=by rw[u3,hy2]
      have HWo:=zI (without_any _ y2 i r hT6.out (by omega) (by omega) (by rw[hg2,hl2];exact hyg.out));unfold zA at HWo;rw[hl2,hg2] at HWo;have hy2c:y2.cA=some ⟨g,0,none⟩/\y2.cC=c/\y2.gA=y.gA/\y2.gC=y.gC:=by rw[hy2];exact ⟨rfl,rfl,rfl,rfl⟩
      rw[hy2c.1,hy2c.2.1,hy2c.2.2.1,hy2c.2.2.2] at HWo;obtain ⟨w6,hw6⟩:∃ w6,w6=(w5.setCell ⟨w.heap.size,0,none⟩ (.slice (some ⟨g,0,none⟩) y.cl.length c)).setCell ⟨w.heap.size,1,none⟩ (.slice y.gA y.gl.length y.gC):=⟨_,rfl⟩;rw[<-hw6] at HWo hT6 hB6 hR6 CR6 u0 u1 u2' u3' uf;rw[hw5] at hw6;rw[hw6] at u0 u1 u2' u3' uf;obtain ⟨t1,qt1⟩:∃ t,(pv ==0)=t:=⟨_,rfl⟩;obtain ⟨t2,qt2⟩:∃ t,(x.2 ==-1)=t:=⟨_,rfl⟩;replace hl2:=zI hl2;replace hg2:=zI hg2;clear hst hza hls hT5 hK6 hxs u2 u3 hy2 hy2c hC4 hK4 hlt;have hib:i < y.cl.length:=hi'.out;cases t1 with
      | false=>
       have hbl6:=zI (boxLen_blk hB6.out);go_wp2_with fail
       rw[<-hw6];clear k0 k1 kf y0 y1 yf u0 u1 u2' u3' uf hw6 HWo;go_roundw
       case rel=>exact ⟨i+1,y2,by have:=hl2.out;omega,by go_num,by have:=hl2.out;omega,by have:=hl2.out;have:=hg2.out;have:=hyg.out;omega,hT6,hB6,hR6,CR6⟩
       case measure=>(rw[hbl.out,hbl6.out,hl2.out];simp[intOf]<;>omega)
      | true=>
       cases t2 with
       | false=>
        have hbl6:=zI (boxLen_blk hB6.out);go_wp2_with fail
        rw[<-hw6];clear k0 k1 kf y0 y1 yf u0 u1 u2' u3' uf hw6 HWo;go_roundw
        case rel=>exact ⟨i+1,y2,by have:=hl2.out;omega,by go_num,by have:=hl2.out;omega,by have:=hl2.out;have:=hg2.out;have:=hyg.out;omega,hT6,hB6,hR6,CR6⟩
        case measure=>(rw[hbl.out,hbl6.out,hl2.out];simp[intOf]<;>omega)
       | true=>
        go_wp2_with fail
        rw[<-hw6];clear k0 k1 kf y0 y1 yf u0 u1 u2' u3' uf hw6;go_at_call 114
        refine HWo.out.mono ?_;rintro e w7 ⟨⟨v,rfl,y3,hy3,hT7,hl7,hg7⟩,hC7⟩;have hB7:=hB6.out.chg hC7 (fun h=>h);have hR7:=hR6.out.chg hC7 (fun h=>h);obtain ⟨q0,q1⟩:=zcells hB7;have qf:=hB7.frozen;have hst7:=blk_st2 hB7 (.slice y3.cA y3.cl.length y3.cC) (.slice y3.gA y3.gl.length y3.gC);have hT8:=zI (hT7.far hst7.2 (fun k hk _=>⟨88,zA y2,hk ▸ hB7,by decide,by decide⟩));have hB8:Hid (Blk _ w.heap.size 88 (zA y3)):=hst7.1;have hR8:=zI (hR7.chg hst7.2 (by omega));have CR8:=zI (Ct (Chg.trans CR6.out hC7 (fun _ _ h=>h.elim)) hst7.2);have hbl8:=zI (boxLen_blk hB8.out);unfold zA at hy3;subst hy3;have hl7':=zI hl7;have hg7':=zI hg7;clear hst7 hB7 hR7 hC7 hT7 hl7 hg7;go_wp2_with fail
        go_roundw
        case rel=>exact ⟨i,y3,by have:=hl7'.out;omega,by go_num,by have:=hl7'.out;omega,by have:=hl7'.out;have:=hg7'.out;omega,hT8,hB8,hR8,CR8⟩
        case measure=>(rw[hbl.out,hbl8.out,hl7'.out];simp[intOf]<;>omega)
    ·obtain rfl:i=y.cl.length:=by omega
     obtain ⟨r0,r1,rf⟩:wr.cell? ⟨w.heap.size+1,0,none⟩=some (.slice none 0 0)/\wr.cell? ⟨w.heap.size+1,1,none⟩=some (.slice none 0 0)/\(∀ i,wr.frozen? ⟨w.heap.size+1,i,none⟩=false):=⟨by rw[HR.out.cell];rfl,by rw[HR.out.cell];rfl,HR.out.frozen⟩;have hR9:=zI (blk_st2 HR.out (.slice y.cA y.cl.length y.cC) (.slice y.gA y.gl.length y.gC));have hfin:Hid (ZoR z.cl.length z.gl.length (.agg (zA y)) ((wr.setCell ⟨w.heap.size+1,0,none⟩ (.slice y.cA y.cl.length y.cC)).setCell ⟨w.heap.size+1,1,none⟩ (.slice y.gA y.gl.length y.gC))):=
      ⟨y,rfl,HT.out.far hR9.out.2 (fun k hk _=>⟨88,#[.slice none 0 0,.slice none 0 0],hk ▸ HR.out,by decide,by decide⟩),hyl,by have:=hyg.out;have:=hgl.out;omega⟩
     have HW9:=zI (Chg.trans C0.out CR.out (fun i hi e=>by omega):Chg (fun _=>False) w wr);go_wp2
     exact bodyPost_ret (results_cell_row rfl _ _ _ _ _ _ _ rfl hR9.out.1 Tryz.underlying88 rfl (by kernel_rfl)) rfl ⟨⟨_,rfl,hfin.out⟩,Chg.trans HW9.out hR9.out.2 (fun i hi e=>by omega)⟩
 ·have hp:((z.cl.length:Int) - 1 < 0)=False:=eq_false (by omega);have hbe:=hb3 hL;clear hb2 hb3 hL;cases bm with
  | true=>
   clear hb1;go_enter Tryz.func85,Tryz.ntmps85;go_wp2_with fail
   exact bodyPost_ret (results_cell_row rfl _ _ _ _ _ _ _ rfl hR1.out.2 Tryz.underlying88 rfl (by kernel_rfl)) rfl ⟨⟨_,rfl,hsame.out⟩,chg2 w _ _⟩
  | false=>
   have hgl:Hid (z.gl.length=z.cl.length - 1):=by
    show _=_;rcases Nat.decEq z.gl.length (z.cl.length - 1) with h | h
    ·exact absurd (hb1.2 h) (by decide)
    ·exact h
   clear hb1 hsame hR1;go_enter Tryz.func85,Tryz.ntmps85;go_wp2_with fail
   rw[<-hw1];clear hw1 e0 e1 r0 r1 rf hp hbe;go_loopw [7,8] (fun x _ wr=>∃ (i:Nat) (y:ZC),i<=y.cl.length/\x=.int .i64 i/\y.cl.length<=z.cl.length/\y.gl.length=y.cl.length - 1/\Hid (ZT wr y)/\Hid (Blk wr w.heap.size 88 (zA y))/\Hid (Blk wr (w.heap.size+1) 88 #[.slice none 0 0,.slice none 0 0])/\Hid (Chg (fun k=>k=w.heap.size) w1 wr)) (fun x _ wr=>boxLen wr w.heap.size - (intOf x).toNat)
   case atStart=>exact ⟨0,z,Nat.zero_le _,rfl,Nat.le_refl _,hgl.out,HT0,HBz,HBr,Chg.refl _ _⟩
   case round=>
    obtain ⟨i,y,hi,rfl,hyl,hyg,HT,HB,HR,CR⟩:=hrel;have hbl:=zI (boxLen_blk HB.out);obtain ⟨e0,e1⟩:=zcells HB.out;have hef:=HB.out.frozen;replace hyg:=zI hyg;by_cases hlt:i < y.cl.length
    ·have hi':=zI hlt;obtain ⟨x,hx⟩:∃ x,y.cl[i]?=some x:=⟨_,gG hlt⟩;obtain ⟨b0,o0,hA,_,c0,c1⟩:=so_at HT.out.ok.cls hx;have hxR:=zI (HT.out.ok.cin x (List.mem_of_getElem? hx));have HH:=zI (refHas_any wr x.1 aa hxR.out.1);have hAh:=zI hA;have e0':=e0;rw[hA] at e0';obtain ⟨hb,hhb⟩:∃ b,b=hasB x.1 aa:=⟨_,rfl⟩;rw[<-hhb] at HH;replace hx:=zI hx;clear hhb e0 hA;cases hb with
     | false=>
      go_wp2_with (go_at_call 99;refine HH.out.mono ?_;rintro e w' ⟨rfl,rfl⟩)
      go_roundw
      case rel=>exact ⟨i+1,y,by omega,by go_num,hyl,hyg.out,HT,HB,HR,CR⟩
      case measure=>(rw[hbl.out];simp[intOf]<;>omega)
     | true=>
      have hyl100:y.cl.length<=100:=by omega
      have e0'':=(zcells (HB.out.chg (((Chg.refl (fun _=>False) wr).alloc (.cells #[] 194))) (fun h=>h))).1;rw[hAh.out] at e0'';have hPu:=zI (fun w'=>put14_any w' x.1 aa false hxR.out.1);have hpR:=zI (puN_inR x.1 aa false);obtain ⟨pv,hpv⟩:∃ pv,pv=puN x.1 aa false:=⟨_,rfl⟩;rw[<-hpv] at hPu hpR;clear hpv;go_wp2_with (first | (go_at_call 99;refine HH.out.mono ?_;rintro e w' ⟨rfl,rfl⟩) | (at_builtin;refine wpList_copy rfl (.tmp 35) (.tmp 37) 86 rfl wr.heap.size 194 i4 _ 2 16 Tryz.underlying86 hi4 z40 z41 z42 rfl (by omega) (.slice (some ⟨wr.heap.size,0,none⟩) 0 0) 0 [] rfl (by exact World.ownsRow_lit wr #[] 0 (Nat.le_refl _) (Nat.zero_le _) rfl) (some ⟨b0,o0,none⟩) y.cl.length y.cC wr.heap.size (y.cl.flatMap soC) rfl (by rw[soC_len]) (by have h9:=HT.out.ok.cls.alloc (Nat.le_refl _) (.cells #[] 194);rw[hAh.out] at h9;exact h9) (soC_one _) (by unfold maxLen;omega) (by omega) (by simp) ?_;intro v3 w3 hO3 hg3;have C3:Hid (Chg (fun _=>False) wr w3):=(Chg.trans ((Chg.refl (fun _=>False) wr).alloc (.cells #[] 194)) (Chg.grown (S:=fun k=>k=wr.heap.size) (Chg.refl _ _) hg3 (fun k hk=>.inl (by simp[Value.ownBlock] at hk;omega))) (fun i hi e=>by omega));rw[Nat.zero_add,List.nil_append] at hO3;obtain ⟨g,c,rfl,hgw,hcap1,hcap2,hK3'⟩:=own_formK hO3 (by omega);have hK3:=zI hK3';clear hO3 hg3 hK3';obtain ⟨k0,k1,kf⟩:=hK3.out.cells hx.out))
      go_at_call 88
      refine (hPu.out w3).mono ?_;rintro e w4 ⟨rfl,hC4⟩;have hK4:=hK3.out.chg hC4 (fun h=>h);have C4:=zI (Ct C3.out hC4);have hB4:=zI (HB.out.chg C4.out (fun h=>h));have hR4:=zI (HR.out.chg C4.out (fun h=>h));have hwz:w.heap.size < wr.heap.size:=HB.out.lt;clear k0 k1 kf e0' e0'' e1 hef c0 c1;obtain ⟨k0,k1,kf⟩:=hK4.cells hx.out;have hK5:=zI (hK4.set hx.out pv);have C5:Hid (Chg (fun _=>False) wr (w4.setCell ⟨g,i * 2,none⟩ (.int .i64 pv))):=C4.out.setCell (.inr hgw) _;obtain ⟨w5,hw5⟩:∃ w5,w5=w4.setCell ⟨g,i * 2,none⟩ (.int .i64 pv):=⟨_,rfl⟩;have hB5:=zI (HB.out.chg C5.out (fun h=>h));have hR5:=zI (HR.out.chg C5.out (fun h=>h));rw[<-hw5] at hK5 C5 hB5 hR5;obtain ⟨y0,y1⟩:=zcells hB5.out;have yf:=hB5.out.frozen;rw[hw5] at y0 y1 yf;have hls:(y.cl.set i (pv,x.2)).length=y.cl.length:=List.length_set;obtain ⟨y2,hy2⟩:∃ y2:ZC,y2=⟨some ⟨g,0,none⟩,y.cl.set i (pv,x.2),c,y.gA,y.gl,y.gC⟩:=⟨_,rfl⟩;have hT5:ZT w5 y2:=by
       rw[hy2];exact HT.out.setK C5.out hK5.out (by rw[hls];exact hcap1) hcap2 (by rw[hls];omega) (fun q hq=>by
        rcases mem_set_ hq with rfl | hq
        ·exact ⟨hpR.out,hxR.out.2⟩
        ·exact HT.out.ok.cin q hq)
      have hst:=blk_st2 hB5.out (.slice (some ⟨g,0,none⟩) y.cl.length c) (.slice y.gA y.gl.length y.gC);have hza:#[Value.slice (some ⟨g,0,none⟩) y.cl.length c,Value.slice y.gA y.gl.length y.gC]=zA y2:=by rw[hy2];unfold zA;rw[hls]
      rw[hza] at hst;have hT6:=zI (hT5.far hst.2 (fun k hk _=>⟨88,zA y,hk ▸ hB5.out,by decide,by decide⟩));have hB6:=zI hst.1;have hR6:=zI (hR5.out.chg hst.2 (by omega));have CR6:=zI (Ct (Chg.trans CR.out C5.out (fun _ _ h=>h.elim)) hst.2);have hK6:=hK5.out.chg hst.2 (by omega);have hl2:y2.cl.length=y.cl.length:=by rw[hy2];exact hls
      have hg2:y2.gl.length=y.gl.length:=by rw[hy2]
      have hxs:(y.cl.set i (pv,x.2))[i]?=some (pv,x.2):=List.getElem?_set_self hlt;obtain ⟨u0,u1,-⟩:=hK6.cells hxs;obtain ⟨u2,u3⟩:=zcells hB6.out;have uf:=hB6.out.frozen;rw[hl2] at u2;rw[hg2] at u3;have u2':((w5.setCell ⟨w.heap.size,0,none⟩ (.slice (some ⟨g,0,none⟩) y.cl.length c)).setCell ⟨w.heap.size,1,none⟩ (.slice y.gA y.gl.length y.gC)).cell? ⟨w.heap.size,0,none⟩=some (.slice (some ⟨g,0,none⟩) y.cl.length c):=by rw[u2,hy2]
      have u3':((w5.setCell ⟨w.heap.size,0,none⟩ (.slice (some ⟨g,0,none⟩) y.cl.length c)).setCell ⟨w.heap.size,1,none⟩ (.slice y.gA y.gl.length y.gC)).cell? ⟨w.heap.size,1,none⟩=some (.slice y.gA y.gl.length y.gC):=by rw[u3,hy2]
      have HWo:=zI (without_any _ y2 i r hT6.out (by omega) (by omega) (by rw[hg2,hl2];exact hyg.out));unfold zA at HWo;rw[hl2,hg2] at HWo;have hy2c:y2.cA=some ⟨g,0,none⟩/\y2.cC=c/\y2.gA=y.gA/\y2.gC=y.gC:=by rw[hy2];exact ⟨rfl,rfl,rfl,rfl⟩
      rw[hy2c.1,hy2c.2.1,hy2c.2.2.1,hy2c.2.2.2] at HWo;obtain ⟨w6,hw6⟩:∃ w6,w6=(w5.setCell ⟨w.heap.size,0,none⟩ (.slice (some ⟨g,0,none⟩) y.cl.length c)).setCell ⟨w.heap.size,1,none⟩ (.slice y.gA y.gl.length y.gC):=⟨_,rfl⟩;rw[<-hw6] at HWo hT6 hB6 hR6 CR6 u0 u1 u2' u3' uf;rw[hw5] at hw6;rw[hw6] at u0 u1 u2' u3' uf;obtain ⟨t1,qt1⟩:∃ t,(pv ==0)=t:=⟨_,rfl⟩;obtain ⟨t2,qt2⟩:∃ t,(x.2 ==-1)=t:=⟨_,rfl⟩;replace hl2:=zI hl2;replace hg2:=zI hg2;clear hst hza hls hT5 hK6 hxs u2 u3 hy2 hy2c hC4 hK4 hlt;have hib:i < y.cl.length:=hi'.out;cases t1 with
      | false=>
       have hbl6:=zI (boxLen_blk hB6.out);go_wp2_with fail
       rw[<-hw6];clear k0 k1 kf y0 y1 yf u0 u1 u2' u3' uf hw6 HWo;go_roundw
       case rel=>exact ⟨i+1,y2,by have:=hl2.out;omega,by go_num,by have:=hl2.out;omega,by have:=hl2.out;have:=hg2.out;have:=hyg.out;omega,hT6,hB6,hR6,CR6⟩
       case measure=>(rw[hbl.out,hbl6.out,hl2.out];simp[intOf]<;>omega)
      | true=>
       cases t2 with
       | false=>
        have hbl6:=zI (boxLen_blk hB6.out);go_wp2_with fail
        rw[<-hw6];clear k0 k1 kf y0 y1 yf u0 u1 u2' u3' uf hw6 HWo;go_roundw
        case rel=>exact ⟨i+1,y2,by have:=hl2.out;omega,by go_num,by have:=hl2.out;omega,by have:=hl2.out;have:=hg2.out;have:=hyg.out;omega,hT6,hB6,hR6,CR6⟩
        case measure=>(rw[hbl.out,hbl6.out,hl2.out];simp[intOf]<;>omega)
       | true=>
        go_wp2_with fail
        rw[<-hw6];clear k0 k1 kf y0 y1 yf u0 u1 u2' u3' uf hw6;go_at_call 114
        refine HWo.out.mono ?_;rintro e w7 ⟨⟨v,rfl,y3,hy3,hT7,hl7,hg7⟩,hC7⟩;have hB7:=hB6.out.chg hC7 (fun h=>h);have hR7:=hR6.out.chg hC7 (fun h=>h);obtain ⟨q0,q1⟩:=zcells hB7;have qf:=hB7.frozen;have hst7:=blk_st2 hB7 (.slice y3.cA y3.cl.length y3.cC) (.slice y3.gA y3.gl.length y3.gC);have hT8:=zI (hT7.far hst7.2 (fun k hk _=>⟨88,zA y2,hk ▸ hB7,by decide,by decide⟩));have hB8:Hid (Blk _ w.heap.size 88 (zA y3)):=hst7.1;have hR8:=zI (hR7.chg hst7.2 (by omega));have CR8:=zI (Ct (Chg.trans CR6.out hC7 (fun _ _ h=>h.elim)) hst7.2);have hbl8:=zI (boxLen_blk hB8.out);unfold zA at hy3;subst hy3;have hl7':=zI hl7;have hg7':=zI hg7;clear hst7 hB7 hR7 hC7 hT7 hl7 hg7;go_wp2_with fail
        go_roundw
        case rel=>exact ⟨i,y3,by have:=hl7'.out;omega,by go_num,by have:=hl7'.out;omega,by have:=hl7'.out;have:=hg7'.out;omega,hT8,hB8,hR8,CR8⟩
        case measure=>(rw[hbl.out,hbl8.out,hl7'.out];simp[intOf]<;>omega)
    ·obtain rfl:i=y.cl.length:=by omega
     obtain ⟨r0,r1,rf⟩:wr.cell? ⟨w.heap.size+1,0,none⟩=some (.slice none 0 0)/\wr.cell? ⟨w.heap.size+1,1,none⟩=some (.slice none 0 0)/\(∀ i,wr.frozen? ⟨w.heap.size+1,i,none⟩=false):=⟨by rw[HR.out.cell];rfl,by rw[HR.out.cell];rfl,HR.out.frozen⟩;have hR9:=zI (blk_st2 HR.out (.slice y.cA y.cl.length y.cC) (.slice y.gA y.gl.length y.gC));have hfin:Hid (ZoR z.cl.length z.gl.length (.agg (zA y)) ((wr.setCell ⟨w.heap.size+1,0,none⟩ (.slice y.cA y.cl.length y.cC)).setCell ⟨w.heap.size+1,1,none⟩ (.slice y.gA y.gl.length y.gC))):=
      ⟨y,rfl,HT.out.far hR9.out.2 (fun k hk _=>⟨88,#[.slice none 0 0,.slice none 0 0],hk ▸ HR.out,by decide,by decide⟩),hyl,by have:=hyg.out;have:=hgl.out;omega⟩
     have HW9:=zI (Chg.trans C0.out CR.out (fun i hi e=>by omega):Chg (fun _=>False) w wr);go_wp2
     exact bodyPost_ret (results_cell_row rfl _ _ _ _ _ _ _ rfl hR9.out.1 Tryz.underlying88 rfl (by kernel_rfl)) rfl ⟨⟨_,rfl,hfin.out⟩,Chg.trans HW9.out hR9.out.2 (fun i hi e=>by omega)⟩
section
variable {P:Program} {ops:Array Oper} {Q:Exit->Act->World->Prop} {t0:Array Value} {w0:World} {L:List (Option Nat)} {ds:List Nat} {SL:List Sp} {Z:Nat->Prop} {aq:Nat}
def Mv2 (P:Program) (ops:Array Oper) (Q:Exit->Act->World->Prop) (L:List (Option Nat)) (ds:List Nat) (SL:List Sp) (aq:Nat) (Z:Nat->Prop) (t0:Array Value) (w0:World) (i:Nat) (o:Oper):Prop:=
 ∀ (f:Nat->Value) (a:Act) (w:World),(∀ s,ds.contains s=true->(a.tmps[s]?).getD undef=f s)->(∀ s,ds.contains s=false->(a.tmps[s]?).getD undef=(t0[s]?).getD undef)->Chg Z w0 w->((i=aq\/waitsB ops aq i=true)->Chg (fun _=>False) w0 w)->(∀ j d,waitsB ops j i=true->L[j]?.join=some d->(a.tmps[d]?).getD undef=(t0[d]?).getD undef)->(∀ j,(dn ops i).contains j=true->mvS aq Z SL j (atF f (L[j]?.join)) w)->
  wpOp P ops Q i (fun a' w'=>∃ v,a'=a.put o.dst v/\mvS aq Z SL i v w'/\(o.dst=none->v=undef)/\Chg (ZI aq Z i) w w') a w
theorem mv_step2 (hD:dstB ops L ds t0.size=true) {listed:Array Bool} {a:Act} {w:World} (hI:MvI ops L ds SL aq Z t0 w0 listed a w) {i:Nat} {o:Oper} (ho:ops[i]?=some o) (hu:listed.getD i true=false) (ha:∀ e ∈ o.after,Region.binds .any e=true->listed.getD e.on false=true)
  (hst:Mv2 P ops Q L ds SL aq Z t0 w0 i o) (hsz:listed.size=ops.size):wpOp P ops Q i (MvI ops L ds SL aq Z t0 w0 (listed.setIfInBounds i true)) a w:=by
 obtain ⟨f,hf,hok,hpre⟩:=hI.ex;have hil:i < listed.size:=by rw[hsz];exact (Array.getElem?_eq_some_iff.1 ho).1
 have hu':listed.getD i false=false:=by simp[hil] at hu |-;exact hu
 have h:=hst f a w (fun s hs=>by rw[hf];exact slot_in hD hs) (fun s hs=>by rw[hf];exact slot_out hs) hI.chg (fun e=>hI.ahead (by
  rcases e with e | hw
  ·rw[<-e];exact hu'
  ·cases hjl:listed.getD aq false with
   | false=>rfl
   | true=>
    have:=cov_listed hI.clos aq (dn ops aq) (hI.clos aq hjl) i (by simpa [waitsB] using hw);rw[hu'] at this;cases this)) (fun j d hw hj=>by
  have hnl:listed.getD j false=false:=by
   cases hjl:listed.getD j false with
   | false=>rfl
   | true=>
    have:=cov_listed hI.clos j (dn ops j) (hI.clos j hjl) i (by simpa [waitsB] using hw);rw[hu'] at this;cases this
  rw[hf,slot_in hD (by
   have hD':=hD;simp only[dstB,Bool.and_eq_true,beq_iff_eq] at hD';rw[<-hD'.1.1.2];rw[List.contains_iff_mem,List.mem_filterMap];cases hLj:L[j]? with
   | none=>rw[hLj] at hj;cases hj
   | some x=>rw[hLj] at hj;exact ⟨x,List.mem_of_getElem? hLj,hj⟩)]
  exact hpre j d hnl hj) (fun j hj=>hok j (dn_listed ho ha j (by simpa using hj)))
 refine wpOp_mono ?_ h;rintro a' w' ⟨v,ha',hS,hun,hc⟩;have hd:=dst_of hD ho;have hD':=hD;simp only[dstB,Bool.and_eq_true,beq_iff_eq,decide_eq_true_eq,List.all_eq_true] at hD';obtain ⟨⟨⟨h1,h2⟩,h3⟩,h4⟩:=hD';have hLi:L[i]?=some o.dst:=by rw[<-h1];simp[ho]
 have hdn:=dn_listed ho ha;refine ⟨⟨fun s=>if o.dst=some s then v else f s,?_,?_,?_⟩,Chg.trans hI.chg hc (fun _ _ h=>h.2),?_,fun hnl=>?_⟩
 ·rw[ha',hf];unfold Act.put;cases hdd:o.dst with
  | none=>simp
  | some d=>
   have hm:d ∈ ds:=by
    rw[<-h2,List.mem_filterMap];exact ⟨some d,by rw[<-hdd];exact List.mem_of_getElem? hLi,rfl⟩
   dsimp only;rw[putAll_set t0 ds f d v hm];congr 2
   funext s
   by_cases e:s=d
   ·subst e;simp
   ·rw[if_neg e,if_neg (by simpa using fun e'=>e e'.symm)]
 ·intro j hj;by_cases hji:j=i
  ·subst hji;rw[hd];cases hdd:o.dst with
   | none=>rw[hun hdd] at hS;exact hS
   | some d=>simp only[atF,if_pos];exact hS
  ·rw[getD_set_ne false (fun e=>hji e.symm)] at hj;have h5:=mvS_mono hji (hok j hj) hc;have e:atF (fun s=>if o.dst=some s then v else f s) (L[j]?.join)=atF f (L[j]?.join):=by
    cases hLj:L[j]? with
    | none=>rfl
    | some x=>
     cases x with
     | none=>rfl
     | some d=>
      simp only[Option.join,atF];show (if o.dst=some d then v else f d)=f d;rw[if_neg];intro e;rw[e] at hLi;rw[<-h2] at h4;exact hji (filt_nodup L h4 j i d hLj hLi)
   rw[e];exact h5
 ·intro j d hj hLj;have hji:j ≠ i:=by rintro rfl;simp[hil] at hj
  rw[getD_set_ne false (fun e=>hji e.symm)] at hj;show (if o.dst=some d then v else f d)=_;rw[if_neg]
  ·exact hpre j d hj hLj
  ·intro e;rw[e] at hLi;rw[<-h2] at h4;cases hLj':L[j]? with
   | none=>rw[hLj'] at hLj;cases hLj
   | some x=>
    rw[hLj'] at hLj;have:x=some d:=hLj;rw[this] at hLj';exact hji (filt_nodup L h4 j i d hLj' hLi)
 ·intro j hj k hk;by_cases hji:j=i
  ·subst hji;exact getD_set_true (hdn k hk)
  ·rw[getD_set_ne false (fun e=>hji e.symm)] at hj;exact getD_set_true (hI.clos j hj k hk)
 ·by_cases hia:i=aq
  ·subst hia;simp[hil] at hnl
  ·rw[getD_set_ne false hia] at hnl;exact Chg.trans (hI.ahead hnl) hc (fun _ _ h=>absurd h.1 hia)
theorem region_mvk2 {id:Nat} (hm:P.follows .mixedOrders=true) (L:List (Option Nat)) (ds:List Nat) (SL:List Sp) (aq:Nat) (Z:Nat->Prop) (n:Nat) (hn:ops.size=n+1) (hl:laterB ops=true) (hD:dstB ops L ds t0.size=true) (hk:sinkB ops n=true)
  (steps:Each (Mv2 P ops Q L ds SL aq Z t0 w0) 0 (ops.toList.take n)) (last:∀ (f:Nat->Value) (a:Act) (w:World),a=⟨putAll t0 ds f,[]⟩->(∀ s,ds.contains s=true->(a.tmps[s]?).getD undef=f s)->(∀ s,ds.contains s=false->(a.tmps[s]?).getD undef=(t0[s]?).getD undef)->Chg Z w0 w->(∀ i,i < n->mvS aq Z SL i (atF f (L[i]?.join)) w)->wpOp P ops Q n (fun a' w'=>Q .normal a' w') a w):(Code.region id ops true).wp P Q ⟨t0,[]⟩ w0:=by
 have hst:∀ (i:Nat) o,i < n->ops[i]?=some o->Mv2 P ops Q L ds SL aq Z t0 w0 i o:=fun i o hi ho=>by
  have:=Each.get _ 0 i o steps (show (ops.toList.take n)[i]?=some o by rw[List.getElem?_take];rw[if_pos hi];simpa using ho);rwa [Nat.zero_add] at this
 refine wp_region_any hm (wpAny_inv (I:=fun listed a w=>listed.size=n+1/\Clos ops listed/\((listed.getD n false=false/\MvI ops L ds SL aq Z t0 w0 listed a w)\/((∀ j,j < n+1->listed.getD j false=true)/\Q .normal a w))) (laterB_spec hl) ?_ ?_ _ _ _ _ (by simp) ?_ ⟨by simp[hn],?_,?_⟩)
 ·rintro listed a w ⟨hsz,hcl,hI⟩ i o ho hu ha;have hi:i < n+1:=by rw[<-hn];exact (Array.getElem?_eq_some_iff.1 ho).1
  have hil:i < listed.size:=by omega
  have hu':listed.getD i false=false:=by simp[hil] at hu |-;exact hu
  have hdn:=dn_listed ho ha;have hcl2:Clos ops (listed.setIfInBounds i true):=fun j hj k hk=>by
   by_cases hji:j=i
   ·subst hji;exact getD_set_true (hdn k hk)
   ·rw[getD_set_ne false (fun e=>hji e.symm)] at hj;exact getD_set_true (hcl j hj k hk)
  rcases hI with ⟨hnl,hI⟩ | ⟨hall,hQ⟩
  ·by_cases hin:i=n
   ·subst hin;have hall:∀ j,j < i->listed.getD j false=true:=fun j hj=>by
     refine cov_listed hcl i (dn ops i) hdn j ?_;unfold sinkB at hk;have:=List.all_eq_true.1 hk j (List.mem_range.2 hj);simpa using this
    obtain ⟨f,rfl,hok,_⟩:=hI.ex;refine wpOp_mono ?_ (last f _ w rfl (fun s hs=>slot_in hD hs) (fun s hs=>slot_out hs) hI.chg (fun j hj=>hok j (hall j hj)));intro a' w' hQ;refine ⟨by simpa using hsz,hcl2,.inr ⟨fun j hj=>?_,hQ⟩⟩;by_cases hji:j=i
    ·subst hji;simp[hil]
    ·exact getD_set_true (hall j (by omega))
   ·refine wpOp_mono ?_ (mv_step2 hD hI ho hu ha (hst i o (by omega) ho) (by omega));intro a' w' h;exact ⟨by simpa using hsz,hcl2,.inl ⟨by rw[getD_set_ne false hin];exact hnl,h⟩⟩
  ·rw[hall i hi] at hu';cases hu'
 ·rintro listed a w ⟨hsz,hcl,hI⟩ hall;rcases hI with ⟨hnl,hI⟩ | ⟨_,hQ⟩
  ·rw[hall n (by omega)] at hnl;cases hnl
  ·exact hQ
 ·rw[Array.toList_replicate,List.count_replicate_self];exact Nat.le_refl _
 ·intro j hj;by_cases h:j < n+1<;>simp[hn,h] at hj
 ·refine .inl ⟨by simp[hn],⟨fun s=>t0.getD s undef,by rw[putAll_same],fun i h=>?_,fun j d _ _=>by simp⟩,(Chg.refl _ _).drew,fun j h=>?_,fun _=>(Chg.refl _ _).drew⟩
  ·by_cases hi:i < ops.size<;>simp[hi] at h
  ·by_cases hi:j < ops.size<;>simp[hi] at h
end
structure ZsT (w:World) (A:Option Addr) (l:List ZC) (n k:Nat):Prop where
 rd:Rd w w.heap.size A (l.flatMap zC)
 each:∀ z ∈ l,ZT w z/\z.cl.length<=n/\z.gl.length<=k
 ty:∀ ad,A=some ad->0 < l.length->∃ cur,Blk w ad.block 88 cur
theorem ZsT.later {w w':World} {A:Option Addr} {l:List ZC} {n k:Nat} (h:ZsT w A l n k) (hc:Chg (fun _=>False) w w'):ZsT w' A l n k:=⟨h.rd.later hc (fun _ h=>h.elim),fun z hz=>let ⟨h1,h2⟩:=h.each z hz;⟨h1.later hc,h2⟩,fun ad a b=>let ⟨cur,hb⟩:=h.ty ad a b;⟨cur,hb.chg hc (fun h=>h)⟩⟩
theorem own_ty {w:World} {B t size m c:Nat} {A:Option Addr} {xs:List Value} (h:w.ownsRow B t size (.slice A m c) m xs):∀ ad,A=some ad->0 < m->∃ cur,Blk w ad.block t cur:=fun ad a b=>by
 subst a;obtain ⟨g,cap,e,_⟩:=h.form b;injection e with e _ _;injection e with e;subst e;exact own_blk h rfl
theorem ZL.zs {w:World} {B n k m c:Nat} {A:Option Addr} {l:List ZC} (h:ZL w B (.slice A m c) l n k) (hm:m=l.length):ZsT w A l n k:=by
 subst hm;exact ⟨own_rdN h.own,h.each,own_ty h.own⟩
theorem ZsT.ok {w:World} {A:Option Addr} {l:List ZC} {n k:Nat} (h:ZsT w A l n k):ZsOK w A l:=⟨h.rd,fun z hz=>(h.each z hz).1.ok⟩
theorem unique_any (w1:World) (A:Option Addr) (c:Nat) (l:List ZC) (n k:Nat) (hA:ZsT w1 A l n k) (hl:l.length<=1000000000):
  Calls Tryz.prog 86 #[.slice A l.length c] w1 fun e w'=>(∃ v,e=.returned v/\ZsR w1 l.length n k v w')/\Chg (fun _=>False) w1 w':=by
 obtain ⟨i8,hi8,z80,z81,z82⟩:=info_3 zone_info;have HA:=zI (fun (w':World) (h:Chg (fun _=>False) w1 w')=>hA.later h);clear hA;go_enter Tryz.func86,Tryz.ntmps86;go_wp2_with fail
 go_loopw [4,3] (fun x v wr=>∃ (j:Nat) (q:List ZC),j<=l.length/\x=.int .i64 j/\Hid (q.length<=j)/\Hid (ZL wr w1.heap.size v q n k)/\Hid (Chg (fun _=>False) w1 wr)) (fun x _ _=>l.length - (intOf x).toNat)
 case atStart=>exact ⟨0,[],Nat.zero_le _,rfl,Nat.le_refl _,ZL.nil _ _ _ _,Chg.refl _ _⟩
 case round=>
  obtain ⟨j,q,hj,rfl,hq,hL,hC⟩:=hrel;by_cases hlt:j < l.length
  ·obtain ⟨x,hx⟩:∃ x,l[j]?=some x:=⟨_,gG hlt⟩;obtain ⟨b0,o0,hAe,_,hc⟩:=row_at zC_len (by omega) (HA.out wr hC.out).rd hx;have c0:=hc 0 _ rfl;have c1:=hc 1 _ rfl;rw[Nat.add_zero] at c0;obtain ⟨A',c',rfl,hc1,hc2⟩:=own_slice hL.out.own;have hL0:=hL.out;have HH:=zI (has25_any wr A' c' q x (hL0.zs rfl).ok ((HA.out wr hC.out).each x (List.mem_of_getElem? hx)).1.ok (by have:=hq.out;omega));unfold zA at HH;have hx':=zI hx;have hAe':=zI hAe;subst hAe;clear hL0 hc hx;have hc1':=zI hc1;have hc2':=zI hc2;clear hc1 hc2;go_wp2_with fail
   go_at_call 115
   refine HH.out.mono ?_;rintro e w2 ⟨⟨b,rfl⟩,hC2⟩;have C2:=zI (Ct hC.out hC2);have hL2:=zI (hL.out.later hC2);have hkeep:∀ ad u,wr.cell? ad=some u->w2.cell? ad=some u:=fun ad u h=>by exact keep_cell hC2 (fun _ h=>h) h
   have d0:w2.cell? ⟨b0,o0+j * 2,none⟩=some (.slice x.cA x.cl.length x.cC):=(hkeep _ _ c0);have d1:w2.cell? ⟨b0,o0+j * 2+1,none⟩=some (.slice x.gA x.gl.length x.gC):=(hkeep _ _ c1);clear c0 c1 HH hL hC2;cases b with
   | true=>
    go_wp2_with fail
    go_roundw
    case rel=>exact ⟨j+1,q,by omega,by go_num,by have:=hq.out;exact (by omega:q.length<=j+1),hL2,C2⟩
    case measure=>(simp[intOf]<;>omega)
   | false=>
    have hxt:=zI ((HA.out w2 C2.out).each x (List.mem_of_getElem? hx'.out));have hqb:q.length<=1000000000:=by have:=hq.out;omega
    go_wp2_with (at_builtin;refine wpList_append_own _ rfl (.tmp 18) (.tmp 23) 138 rfl w1.heap.size 88 i8 _ 2 48 Tryz.underlying138 hi8 z80 z81 z82 rfl (by omega) (.slice A' q.length c') q.length (q.flatMap zC) rfl (by exact hL2.out.own.alloc _) ⟨w2.heap.size,0,none⟩ 1 1 (zC x) rfl rfl (by exact all_new (Blk.new w2 88 #[.slice x.cA x.cl.length x.cC,.slice x.gA x.gl.length x.gC])) (zC_one x) (by unfold maxLen;omega) (by omega) (by have:=C2.out.size;simp;omega) ?_;intro v9 w9 hown9 hg9 hat9;have HL9:=zI (hL2.out.more hxt.out.1 hxt.out.2.1 hxt.out.2.2 hown9 hg9);have C9:=zI (hL2.out.chg (Nat.le_refl _) C2.out hg9);clear hown9 hg9 hat9)
    go_roundw
    case rel=>exact ⟨j+1,q++[x],by omega,by go_num,zI (by have:=hq.out;show _<=_;rw[List.length_append];simp only[List.length_cons,List.length_nil];omega),HL9,C9⟩
    case measure=>(simp[intOf]<;>omega)
  ·obtain rfl:j=l.length:=by omega
   go_wp2
   go_ret;exact ⟨⟨_,rfl,q,hL.out,hq.out⟩,hC.out⟩
end
end Go.Proofs.YthohgagkjnbkbaaGreat
