/- FragTrue, part 30: FrZc FrPb. Each theorem says what a function does, or a plain fact, under its own premises alone. -/
import Derived.Test.YthohgagkjnbkbaaGreatP23
import Derived.Test.YthohgagkjnbkbaaGreatP29
set_option maxRecDepth 100000
set_option maxHeartbeats 16000000
namespace Go.Proofs.YthohgagkjnbkbaaGreat
section
open Go.RowKit
theorem ZB.setG' {w w':World} {B zb:Nat} {cl:List (Int × Int)} {gl gl':List Int} {vC vG v':Value} (h:ZB w B zb cl gl vC vG) (ho:w'.ownsRow B 3 1 v' gl'.length (intsV gl')) (hc:Chg (fun k=>vG.ownBlock=some k) w w'):ZB (w'.setCell ⟨zb,1,none⟩ v') B zb cl gl' vC v':=by
 have hl:=h.lt;refine ⟨?_,own_set (own_chg h.oc hc (fun g e e'=>own_own_ne h.og h.oc (by decide) g e' e)) (fun e=>h.nC e) _,own_set ho (fun e=>by have:=(ho.lt zb e).1;omega) _,hl⟩;have:=(h.blk.chg hc (fun e=>h.nG e)).set 1 v';simpa using this
theorem ZB.setC' {w w':World} {B zb:Nat} {cl cl':List (Int × Int)} {gl:List Int} {vC vG v':Value} (h:ZB w B zb cl gl vC vG) (ho:w'.ownsRow B 194 2 v' cl'.length (cl'.flatMap soC)) (hc:Chg (fun k=>vC.ownBlock=some k) w w'):ZB (w'.setCell ⟨zb,0,none⟩ v') B zb cl' gl v' vG:=by
 have hl:=h.lt;refine ⟨?_,own_set ho (fun e=>by have:=(ho.lt zb e).1;omega) _,own_set (own_chg h.og hc (fun g e e'=>own_own_ne h.oc h.og (by decide) g e' e)) (fun e=>h.nG e) _,hl⟩;have:=(h.blk.chg hc (fun e=>h.nC e)).set 0 v';simpa using this
theorem own_rdlit (w:World) (n:Int):Rd (w.alloc (.cells #[.int .i64 n] 3)) (w.alloc (.cells #[.int .i64 n] 3)).heap.size (some ⟨w.heap.size,0,none⟩) [.int .i64 n]:=fun _=>⟨_,rfl,by simp,all_new (Blk.new w 3 #[.int .i64 n])⟩
theorem soC1_one (x:Int × Int):∀ u ∈ soC x,u.oneCell'=true:=fun u hu=>by
 simp[soC] at hu;rcases hu with rfl | rfl<;>rfl
theorem blk_st2 {w:World} {z:Nat} {t:TypeId} {c0 c1:Value} (hb:Blk w z t #[c0,c1]) (v0 v1:Value):Blk ((w.setCell ⟨z,0,none⟩ v0).setCell ⟨z,1,none⟩ v1) z t #[v0,v1]/\Chg (fun k=>k=z) w ((w.setCell ⟨z,0,none⟩ v0).setCell ⟨z,1,none⟩ v1):=by
 constructor
 ·have h:=(hb.set 0 v0).set 1 v1;simpa using h
 ·exact ((Chg.refl (fun k=>k=z) w).setCell (p:=⟨z,0,none⟩) (.inl rfl) _).setCell (p:=⟨z,1,none⟩) (.inl rfl) _
theorem of22_any (w:World) (A:Option Addr) (c:Nat) (a:List Int) (D:Option Addr) (d:Nat) (q:List Int) (r:Int) (hA:Rd w w.heap.size A (intsV a)) (hD:Rd w w.heap.size D (intsV q)) (hl:a.length<=31/\q.length<=100):Calls Tryz.prog 79 #[.slice A a.length c,.slice D q.length d,.int .i64 r] w fun e w'=>(∃ v,e=.returned v/\ZoR (a.length+q.length) (a.length+q.length) v w')/\Chg (fun _=>False) w w':=by
 obtain ⟨i3,hi3,z30,z31,z32⟩:=info_3 int_info;obtain ⟨i4,hi4,z40,z41,z42⟩:=info_3 cls_info;obtain ⟨l1,l2⟩:=hl;have d31:decide ((31:Int) < (a.length:Int))=false:=by rw[dF];omega
 have d31N:decide (31 < a.length)=false:=by rw[dF];omega
 have C1:Hid (Chg (fun _=>False) w (w.alloc (.cells #[.slice none 0 0,.slice none 0 0] 88))):=(Chg.refl _ w).alloc _;have BR:=zI (Blk.new w 88 #[.slice none 0 0,.slice none 0 0]);have hw1lt:(w.alloc (.cells #[.slice none 0 0,.slice none 0 0] 88)).heap.size=w.heap.size+1:=by simp
 obtain ⟨w1,hw1⟩:∃ w1,w1=w.alloc (.cells #[.slice none 0 0,.slice none 0 0] 88):=⟨_,rfl⟩;rw[<-hw1] at C1 BR hw1lt;have HV:=zI (fun (w':World) (h:Chg (fun _=>False) w w')=>hA.later h (fun _ h=>h.elim));have HD:=zI (fun (w':World) (h:Chg (fun _=>False) w w')=>hD.later h (fun _ h=>h.elim));have HS:=zI (sorted_any w1 q D d (HD.out w1 C1.out) (by omega));unfold InR at HS;have hsl:=srt_le q;clear hA hD;go_enter Tryz.func79,Tryz.ntmps79;go_wp2_with fail
 rw[<-hw1];clear hw1;go_at_call 26
 refine HS.out.mono ?_;rintro e w2 ⟨Ac,cc,rfl,-,hRc,hC2⟩;have C2:=zI (Ct C1.out hC2);have BR2:=zI (BR.out.chg hC2 (fun h=>h));have HQ0:=zI hRc;have hsz2:w.heap.size+1<=w2.heap.size:=by have:=hC2.size;omega
 have HN:=zI (n22_any w2 A c a D d q (HV.out w2 C2.out) (HD.out w2 C2.out) ⟨by omega,by omega⟩);obtain ⟨sq,hsq⟩:∃ sq,sq=srt q:=⟨_,rfl⟩;rw[<-hsq] at HQ0 hsl |-;clear hsq hRc hC2 HS BR;go_wp2_with fail
 go_at_call 105
 refine HN.out.mono ?_;rintro e w3 ⟨⟨B,b,l,rfl,hll,hRl⟩,hC3⟩;have C3:=zI (Ct C2.out hC3);have BR3:=zI (BR2.out.chg hC3 (fun h=>h));have hsz3:w.heap.size+1<=w3.heap.size:=by have:=hC3.size;omega
 have HQ:=zI (fun (w':World) (h:Chg (fun _=>False) w3 w')=>(HQ0.out.later hC3 (fun _ h=>h.elim)).later h (fun _ h=>h.elim));have HL:=zI (fun (w':World) (h:Chg (fun _=>False) w3 w')=>hRl.later h (fun _ h=>h.elim));obtain ⟨zb,hzb⟩:∃ zb,zb=w3.heap.size:=⟨_,rfl⟩;obtain ⟨w4,hw4⟩:∃ w4,w4=w3.alloc (.cells #[.slice none 0 0,.slice none 0 0] 88):=⟨_,rfl⟩;have hs4:w4.heap.size=zb+1:=by rw[hw4,hzb];simp
 have HB0:Hid (ZB w4 w4.heap.size zb [] [] (.slice none 0 0) (.slice none 0 0)):=by
  refine ZB.start ?_ (by omega);rw[hw4,hzb];exact Blk.new w3 88 _
 have HT:=zI (fun (w':World) (h:Chg (fun k=>k=zb) w4 w')=>(Chg.trans ((Chg.refl (fun _=>False) w3).alloc (.cells #[.slice none 0 0,.slice none 0 0] 88)) (by rw[<-hw4];exact h) (fun i hi e=>by omega):Chg (fun _=>False) w3 w'));clear hRl hC3 HQ0 BR2 HN;go_wp2_with fail
 rw[<-hw4,<-hzb];replace hzb:=zI hzb;clear hw4;go_loopw [10,11,12,13] (fun x _ _ _ wr=>∃ (i:Nat) (cl:List (Int × Int)) (gl:List Int) (vC vG:Value),i<=l.length/\x=.int .i64 i/\cl.length=i/\gl.length<=i/\Hid (∀ x ∈ cl,inR x.1/\inR x.2)/\Hid (∀ x ∈ gl,inR x)/\Hid (ZB wr w4.heap.size zb cl gl vC vG)/\Hid (Chg (fun k=>k=zb) w4 wr)) (fun x _ _ _ _=>l.length - (intOf x).toNat)
 case atStart=>exact ⟨0,[],[],_,_,Nat.zero_le _,rfl,rfl,Nat.le_refl _,zI (by simp),zI (by simp),HB0,Chg.refl _ _⟩
 case round=>
  obtain ⟨i,cl,gl,vC,vG,hi,rfl,hcl,hgl,hcR,hgR,hZ,CR⟩:=hrel;have hclb:cl.length<=131:=by omega
  replace hcl:=zI hcl;have hzx:zb < wr.heap.size:=hZ.out.blk.lt;by_cases hlt:i < l.length
  ·obtain ⟨li,hli⟩:∃ x,l[i]?=some x:=⟨_,gG hlt⟩;obtain ⟨lb,lo,rfl,_,-⟩:=int_at (HL.out wr (HT.out wr CR.out)) hli;have HLi:Hid (∀ w',Chg (fun _=>False) wr w'->w'.cell? ⟨lb,lo+i,none⟩=some (.int .i64 li)):=fun w' h=>by
    obtain ⟨b',o',e,_,hc⟩:=int_at (HL.out w' (Ct (HT.out wr CR.out) h)) hli;injection e with e;injection e with e1 e2 _;subst e1;subst e2;exact hc
   have HVw:=zI (fun (w':World) (h:Chg (fun _=>False) wr w')=>HV.out w' (Ct (Ct C3.out (HT.out wr CR.out)) h));have HQw:=zI (fun (w':World) (h:Chg (fun _=>False) wr w')=>HQ.out w' (Ct (HT.out wr CR.out) h));obtain ⟨xb,hxb⟩:∃ xb,xb=wr.heap.size:=⟨_,rfl⟩;have hB0:Hid (Blk (wr.alloc (.cells #[.int .i64 0,.int .i64 (-1)] 194)) xb 194 #[.int .i64 0,.int .i64 (-1)]):=by rw[hxb];exact Blk.new wr 194 _
   have hC0:Hid (Chg (fun _=>False) wr (wr.alloc (.cells #[.int .i64 0,.int .i64 (-1)] 194))):=(Chg.refl _ _).alloc _;obtain ⟨w5,hw5⟩:∃ w5,w5=wr.alloc (.cells #[.int .i64 0,.int .i64 (-1)] 194):=⟨_,rfl⟩;rw[<-hw5] at hB0 hC0;go_wp2_with fail
   rw[<-hw5,<-hxb];have hxle:wr.heap.size<=xb:=by omega
   clear hw5 hxb;go_loopw [12] (fun x wk=>∃ (k:Nat) (at':Int),k<=a.length/\x=.int .i64 k/\Hid (inR at')/\Hid (Blk wk xb 194 #[.int .i64 at',.int .i64 (-1)])/\Hid (Chg (fun _=>False) wr wk)) (fun x _=>a.length - (intOf x).toNat)
   case atStart=>exact ⟨0,0,Nat.zero_le _,rfl,zI (by unfold inR;omega),hB0,hC0⟩
   case round=>
    rename World=>wq
    obtain ⟨k,at',hk,rfl,hat,hB,hCk⟩:=hrel;by_cases hkl:k < a.length
    ·obtain ⟨x,hx⟩:∃ x,a[k]?=some x:=⟨_,gG hkl⟩;obtain ⟨vb,vo,hvA,_,c0⟩:=int_at (HVw.out wq hCk.out) hx;have c1:=HLi.out wq hCk.out;subst hvA;have K0:=fun n:KW wq=>kept_cell c0 n
     have K1:=fun n:KW wq=>kept_cell c1 n
     obtain ⟨e,qe⟩:∃ e,(x ==li)=e:=⟨_,rfl⟩;have HP:=zI (fun w'=>put14_any w' at' k true hat.out);have hpR:=zI (puN_inR at' k true);obtain ⟨pv,hpv⟩:∃ pv,pv=puN at' k true:=⟨_,rfl⟩;rw[<-hpv] at HP hpR;clear c0 c1 hx hpv;cases e with
     | false=>
      go_wp2_with fail
      refine wp_region_kept wq (Chg.refl _ _) (by kernel_rfl) (by kernel_rfl) ?_;repeat (go_big_quiet_step (fail))
      refine wpQuiet_nil ?_;rintro w4' ⟨n4,rfl⟩;have C7:=zI (Ct hCk.out n4.h);have hB7:=zI (hB.out.chg n4.h (fun h=>h));obtain ⟨w7,hw7⟩:∃ w7,w7=n4.w:=⟨_,rfl⟩;rw[<-hw7] at C7 hB7 |-;clear hw7 K0 K1;go_wp2_with fail
      go_roundw
      case rel=>exact ⟨k+1,at',by omega,by go_num,hat,hB7,C7⟩
      case measure=>(simp[intOf]<;>omega)
     | true=>
      go_wp2_with fail
      refine wp_region_kept wq (Chg.refl _ _) (by kernel_rfl) (by kernel_rfl) ?_;repeat (go_big_quiet_step (fail))
      refine wpQuiet_nil ?_;rintro w4' ⟨n4,rfl⟩;have C7:=zI (Ct hCk.out n4.h);have hB7:=zI (hB.out.chg n4.h (fun h=>h));obtain ⟨w7,hw7⟩:∃ w7,w7=n4.w:=⟨_,rfl⟩;rw[<-hw7] at C7 hB7 |-;clear hw7 K0 K1;have f0:w7.cell? ⟨xb,0,none⟩=some (.int .i64 at'):=by rw[hB7.out.cell];rfl
      go_wp2_with fail
      go_at_call 88
      refine (HP.out w7).mono ?_;rintro e w8 ⟨rfl,hC8⟩;have hB8:=hB7.out.chg hC8 (fun h=>h);have f0':w8.cell? ⟨xb,0,none⟩=some (.int .i64 at'):=by rw[hB8.cell];rfl
      have ff:=hB8.frozen 0;have hB9:Hid (Blk (w8.setCell ⟨xb,0,none⟩ (.int .i64 pv)) xb 194 #[.int .i64 pv,.int .i64 (-1)]):=by show Blk _ _ _ _;have:=hB8.set 0 (.int .i64 pv);simpa using this
      have C9:Hid (Chg (fun _=>False) wr (w8.setCell ⟨xb,0,none⟩ (.int .i64 pv))):=(Ct C7.out hC8).setCell (.inr hxle) _;clear hB8 hC8 f0;go_wp2_with fail
      go_roundw
      case rel=>exact ⟨k+1,pv,by omega,by go_num,hpR,hB9,C9⟩
      case measure=>(simp[intOf]<;>omega)
    ·obtain rfl:k=a.length:=by omega
     go_wp2_with fail
     go_loopw [13] (fun x wt=>∃ (k:Nat) (cs:Int),k<=sq.length/\x=.int .i64 k/\Hid (inR cs)/\Hid (Blk wt xb 194 #[.int .i64 at',.int .i64 cs])/\Hid (Chg (fun _=>False) wr wt)) (fun x _=>sq.length - (intOf x).toNat)
     case atStart=>exact ⟨0,-1,Nat.zero_le _,rfl,zI (by unfold inR;omega),hB,hCk⟩
     case round=>
      rename World=>wq2
      obtain ⟨k,cs,hk,rfl,hcs,hB,hCk⟩:=hrel;by_cases hkl:k < sq.length
      ·obtain ⟨x,hx⟩:∃ x,sq[k]?=some x:=⟨_,gG hkl⟩;obtain ⟨vb,vo,hvA,_,c0⟩:=int_at (HQw.out wq2 hCk.out) hx;have c1:=HLi.out wq2 hCk.out;subst hvA;have K0:=fun n:KW wq2=>kept_cell c0 n
       have K1:=fun n:KW wq2=>kept_cell c1 n
       obtain ⟨e,qe⟩:∃ e,(x ==li)=e:=⟨_,rfl⟩;clear c0 c1 hx;cases e with
       | false=>
        go_wp2_with fail
        refine wp_region_kept wq2 (Chg.refl _ _) (by kernel_rfl) (by kernel_rfl) ?_;repeat (go_big_quiet_step (fail))
        refine wpQuiet_nil ?_;rintro w4' ⟨n4,rfl⟩;have C7:=zI (Ct hCk.out n4.h);have hB7:=zI (hB.out.chg n4.h (fun h=>h));obtain ⟨w7,hw7⟩:∃ w7,w7=n4.w:=⟨_,rfl⟩;rw[<-hw7] at C7 hB7 |-;clear hw7 K0 K1;go_wp2_with fail
        go_roundw
        case rel=>exact ⟨k+1,cs,by omega,by go_num,hcs,hB7,C7⟩
        case measure=>(simp[intOf]<;>omega)
       | true=>
        go_wp2_with fail
        refine wp_region_kept wq2 (Chg.refl _ _) (by kernel_rfl) (by kernel_rfl) ?_;repeat (go_big_quiet_step (fail))
        refine wpQuiet_nil ?_;rintro w4' ⟨n4,rfl⟩;have C7:=zI (Ct hCk.out n4.h);have hB7:=zI (hB.out.chg n4.h (fun h=>h));obtain ⟨w7,hw7⟩:∃ w7,w7=n4.w:=⟨_,rfl⟩;rw[<-hw7] at C7 hB7 |-;clear hw7 K0 K1;have f1:w7.cell? ⟨xb,1,none⟩=some (.int .i64 cs):=by rw[hB7.out.cell];rfl
        have ff:=hB7.out.frozen 1;have hB9:Hid (Blk (w7.setCell ⟨xb,1,none⟩ (.int .i64 (k:Int))) xb 194 #[.int .i64 at',.int .i64 (k:Int)]):=by show Blk _ _ _ _;have:=hB7.out.set 1 (.int .i64 (k:Int));simpa using this
        have C9:Hid (Chg (fun _=>False) wr (w7.setCell ⟨xb,1,none⟩ (.int .i64 (k:Int)))):=C7.out.setCell (.inr hxle) _;go_wp2_with fail
        go_roundw
        case rel=>exact ⟨k+1,(k:Int),by omega,by go_num,zI (by unfold inR;omega),hB9,C9⟩
        case measure=>(simp[intOf]<;>omega)
      ·obtain rfl:k=sq.length:=by omega
       have hZ2:=zI (hZ.out.chg hCk.out);have CR2:=zI (Chg.trans CR.out hCk.out (fun _ _ h=>h.elim));have HLj:=zI (fun (w':World) (h:Chg (fun _=>False) wq2 w')=>HLi.out w' (Ct hCk.out h));clear hZ CR HB0 hC0 hB0;by_cases hi0:0 < i
       ·have di:decide ((0:Int) < (i:Int))=true:=by rw[dT];omega
        have diN:decide (0 < i)=true:=by rw[dT];omega
        obtain ⟨p,hp⟩:∃ p,i=p+1:=⟨i - 1,by omega⟩;have hpl:p < l.length:=by omega
        have hwp:Hid (IntKind.i64.wrap ((i:Int) - 1)=(p:Int)):=by show _=_;rw[IntKind.wrap_i64];omega
        obtain ⟨lp,hlp⟩:∃ x,l[p]?=some x:=⟨_,gG hpl⟩;have HLp:Hid (∀ w',Chg (fun _=>False) w3 w'->w'.cell? ⟨lb,lo+p,none⟩=some (.int .i64 lp)):=fun w' h=>by
         obtain ⟨b',o',e,_,hc⟩:=int_at (HL.out w' h) hlp;injection e with e;injection e with e1 e2 _;subst e1;subst e2;exact hc
        have HLii:Hid (∀ w',Chg (fun _=>False) w3 w'->w'.cell? ⟨lb,lo+i,none⟩=some (.int .i64 li)):=fun w' h=>by
         obtain ⟨b',o',e,_,hc⟩:=int_at (HL.out w' h) hli;injection e with e;injection e with e1 e2 _;subst e1;subst e2;exact hc
        have HZc:=zI (fun (w':World) (h:Chg (fun k=>vG.ownBlock=some k) wq2 w')=>show w'.cell? ⟨zb,1,none⟩=some vG/\w'.frozen? ⟨zb,1,none⟩=false from ⟨by rw[(hZ2.out.blk.chg h (fun e=>hZ2.out.nG e)).cell];rfl,(hZ2.out.blk.chg h (fun e=>hZ2.out.nG e)).frozen 1⟩);have HZW:=zI (fun (w':World) (h:Chg (fun k=>vG.ownBlock=some k) wq2 w')=>(Chg.trans (HT.out wq2 CR2.out) h (fun i hi e=>by have:=(hZ2.out.og.lt i e).1;have:=hzb.out;omega):Chg (fun _=>False) w3 w'));have HCP:=zI (fun w'=>cap_any w' r);have hKb:=capN_le r;obtain ⟨K,hK⟩:∃ K,K=capN r:=⟨_,rfl⟩;rw[<-hK] at HCP hKb;have HGP:=zI (fun w'=>gapF_any w' lp li K (by omega));have hCs:∀ wz,Chg (fun k=>vG.ownBlock=some k) wq2 wz->wq2.heap.size<=wz.heap.size:=fun wz h=>h.size
        replace hp:=zI hp;clear hlp hK;go_wp2_with fail
        refine region_mvk (by kernel_rfl) [some 70,some 71,some 72,some 73,some 74,some 75,some 76,some 77,some 78,some 79,some 80,some 81,some 82,some 83,some 84,some 85,some 86,none] [70,71,72,73,74,75,76,77,78,79,80,81,82,83,84,85,86] [.is (.pointer (some ⟨zb,1,none⟩)),.is (vG),.is (.slice (some ⟨lb,lo,none⟩) l.length b),.is (.int .i64 (i:Int)),.is (.int .i64 (p:Int)),.is (.pointer (some ⟨lb,lo+p,none⟩)),.is (.int .i64 lp),.is (.slice (some ⟨lb,lo,none⟩) l.length b),.is (.int .i64 (i:Int)),.is (.pointer (some ⟨lb,lo+i,none⟩)),.is (.int .i64 li),.is (.int .i64 r),.is (.int .i64 (K:Int)),.su (fun v _=>∃ n:Int,v=.int .i64 n/\inR n),.su (fun v w'=>∃ (g:Nat) (n:Int),v=.slice (some ⟨g,0,none⟩) 1 1/\wq2.heap.size<=g/\Rd w' w'.heap.size (some ⟨g,0,none⟩) [.int .i64 n]/\inR n),.su (fun v w'=>∃ n:Int,inR n/\w'.ownsRow w4.heap.size 3 1 v (gl.length+1) (intsV gl++[.int .i64 n])),.is (.pointer (some ⟨zb,1,none⟩)),.is undef] 15 (fun k=>vG.ownBlock=some k) 17 (by kernel_rfl) (by kernel_rfl) (by kernel_rfl) (by kernel_rfl) ?_ ?_
        ·refine ⟨?_,?_,?_,?_,?_,?_,?_,?_,?_,?_,?_,?_,?_,?_,?_,?_,?_,trivial⟩
         ·intro f a wz _ hout _ _ _ _;have x9:(a.tmps[9]?).getD undef=.pointer (some ⟨zb,0,none⟩):=hout 9 (by rfl);exact mv_is rfl rfl (by simp[execOp,go_sem,Result.andThen,x9]) rfl (by simp)
         ·intro f a wz hin _ hC _ _ hd;have x70:(a.tmps[70]?).getD undef=.pointer (some ⟨zb,1,none⟩):=(hin 70 (by rfl)).trans (hd 0 (by kernel_rfl));exact mv_is rfl rfl (by simp[execOp,go_sem,Result.andThen,x70,HZc.out wz hC |>.1]) rfl (by simp)
         ·intro f a wz _ hout _ _ _ _;have x8:(a.tmps[8]?).getD undef=.slice (some ⟨lb,lo,none⟩) l.length b:=hout 8 (by rfl);exact mv_is rfl rfl (by simp[execOp,go_sem,x8]) rfl (by simp)
         ·intro f a wz _ hout _ _ _ _;have x10:(a.tmps[10]?).getD undef=.int .i64 (i:Int):=hout 10 (by rfl);exact mv_is rfl rfl (by simp[execOp,go_sem,x10]) rfl (by simp)
         ·intro f a wz hin _ _ _ _ hd;have x73:(a.tmps[73]?).getD undef=.int .i64 (i:Int):=(hin 73 (by rfl)).trans (hd 3 (by kernel_rfl));exact mv_is rfl rfl (by simp[execOp,go_sem,x73,hwp.out]) rfl (by simp)
         ·intro f a wz hin _ _ _ _ hd;have x72:(a.tmps[72]?).getD undef=.slice (some ⟨lb,lo,none⟩) l.length b:=(hin 72 (by rfl)).trans (hd 2 (by kernel_rfl));have x74:(a.tmps[74]?).getD undef=.int .i64 (p:Int):=(hin 74 (by rfl)).trans (hd 4 (by kernel_rfl));exact mv_is rfl rfl (by simp[execOp,go_sem,Result.andThen,x72,x74,hpl]) rfl (by simp)
         ·intro f a wz hin _ hC _ _ hd;have x75:(a.tmps[75]?).getD undef=.pointer (some ⟨lb,lo+p,none⟩):=(hin 75 (by rfl)).trans (hd 5 (by kernel_rfl));exact mv_is rfl rfl (by simp[execOp,go_sem,Result.andThen,x75,HLp.out wz (HZW.out wz hC)]) rfl (by simp)
         ·intro f a wz _ hout _ _ _ _;have x8:(a.tmps[8]?).getD undef=.slice (some ⟨lb,lo,none⟩) l.length b:=hout 8 (by rfl);exact mv_is rfl rfl (by simp[execOp,go_sem,x8]) rfl (by simp)
         ·intro f a wz _ hout _ _ _ _;have x10:(a.tmps[10]?).getD undef=.int .i64 (i:Int):=hout 10 (by rfl);exact mv_is rfl rfl (by simp[execOp,go_sem,x10]) rfl (by simp)
         ·intro f a wz hin _ _ _ _ hd;have x77:(a.tmps[77]?).getD undef=.slice (some ⟨lb,lo,none⟩) l.length b:=(hin 77 (by rfl)).trans (hd 7 (by kernel_rfl));have x78:(a.tmps[78]?).getD undef=.int .i64 (i:Int):=(hin 78 (by rfl)).trans (hd 8 (by kernel_rfl));exact mv_is rfl rfl (by simp[execOp,go_sem,Result.andThen,x77,x78,hlt]) rfl (by simp)
         ·intro f a wz hin _ hC _ _ hd;have x79:(a.tmps[79]?).getD undef=.pointer (some ⟨lb,lo+i,none⟩):=(hin 79 (by rfl)).trans (hd 9 (by kernel_rfl));exact mv_is rfl rfl (by simp[execOp,go_sem,Result.andThen,x79,HLii.out wz (HZW.out wz hC)]) rfl (by simp)
         ·intro f a wz _ hout _ _ _ _;have x2:(a.tmps[2]?).getD undef=.int .i64 r:=hout 2 (by rfl);exact mv_is rfl rfl (by simp[execOp,go_sem,x2]) rfl (by simp)
         ·intro f a wz hin _ _ _ _ hd;have x81:(a.tmps[81]?).getD undef=.int .i64 r:=(hin 81 (by rfl)).trans (hd 11 (by kernel_rfl));exact mv_calli (f:=107) (args:=#[.int .i64 r]) rfl rfl (by simp[go_sem,x81]) rfl (by simp) ((HCP.out wz).mono (fun e w' ⟨h1,h2⟩=>⟨h1,h2 ▸ Chg.refl _ _⟩))
         ·intro f a wz hin _ _ _ _ hd;have x76:(a.tmps[76]?).getD undef=.int .i64 lp:=(hin 76 (by rfl)).trans (hd 6 (by kernel_rfl));have x80:(a.tmps[80]?).getD undef=.int .i64 li:=(hin 80 (by rfl)).trans (hd 10 (by kernel_rfl));have x82:(a.tmps[82]?).getD undef=.int .i64 (K:Int):=(hin 82 (by rfl)).trans (hd 12 (by kernel_rfl));refine mv_call (f:=106) (args:=#[.int .i64 lp,.int .i64 li,.int .i64 K]) rfl rfl (by simp[go_sem,x76,x80,x82]) rfl (by simp) ((HGP.out wz).mono ?_);rintro e w5' ⟨⟨n,rfl,hn0,hn1⟩,rfl⟩;exact ⟨_,rfl,⟨n,rfl,by unfold inR;omega⟩,Chg.refl _ _⟩
         ·intro f a wz hin _ hC _ _ hd;obtain ⟨v83w,v83c,v83p⟩:=hd 13 (by kernel_rfl);have x83:=hin 83 (by rfl);obtain ⟨n,v83e,hn⟩:=v83p;exact mv_su rfl rfl (run_lit1 (P:=Tryz.prog) Tryz.underlying52 hi3 z31 z30 (x83.trans v83e) _ rfl) rfl ⟨_,n,rfl,hCs wz hC,own_rdlit wz n,hn⟩ ((Chg.refl _ _).alloc _) (by simp)
         ·intro f a wz hin _ _ hA _ hd;have x71:(a.tmps[71]?).getD undef=vG:=(hin 71 (by rfl)).trans (hd 1 (by kernel_rfl));obtain ⟨v84w,v84c,v84p⟩:=hd 14 (by kernel_rfl);have x84:=hin 84 (by rfl);obtain ⟨g,n,v84e,hg,hRg,hn⟩:=v84p;have hA':=hA rfl;obtain ⟨v',w',hr,h2,h3⟩:=run_copy (P:=Tryz.prog) wz w4.heap.size 52 52 3 i3 _ 1 8 Tryz.underlying52 hi3 z30 z31 z32 rfl (by omega) vG gl.length (intsV gl) (own_chg hZ2.out.og hA' (fun _ _ h=>h)) (some ⟨g,0,none⟩) 1 1 wz.heap.size [.int .i64 n] rfl (hRg.far v84c (Nat.le_refl _) (fun ad e _ hz=>by have h9:ad=⟨g,0,none⟩:=by { injection e with e;exact e.symm };rw[h9] at hz;have h8:g < wq2.heap.size:=own_lt hZ2.out.og _ hz.2;omega)) (by intro u hu;simp at hu;subst hu;rfl) (by unfold maxLen;omega) (by omega) (by have:=hA'.size;have:=CR2.out.size;omega);exact mv_mv rfl rfl (run_app rfl x71 (x84.trans v84e) hr) rfl ⟨n,hn,h2⟩ rfl (Chg.grown (Chg.refl _ _) h3 (fun k hk=>.inl hk)) (by simp)
         ·intro f a wz _ hout _ _ _ _;have x9:(a.tmps[9]?).getD undef=.pointer (some ⟨zb,0,none⟩):=hout 9 (by rfl);exact mv_is rfl rfl (by simp[execOp,go_sem,Result.andThen,x9]) rfl (by simp)
        ·intro f a' wz ha hin hout hC3 hd;obtain ⟨v85w,v85c,n,hn,hown⟩:=hd 15 (by omega);replace v85c:=v85c.mono (T:=fun _=>False) (fun _ _ h=>h.1 rfl);have x85:=hin 85 (by rfl);have x86:(a'.tmps[86]?).getD undef=.pointer (some ⟨zb,1,none⟩):=(hin 86 (by rfl)).trans (hd 16 (by omega));have hown2:=own_chg hown v85c (fun _ _ h=>h);obtain ⟨Ag,cg,hv85,-,-⟩:=own_slice hown2;have x85':=x85.trans hv85;rw[hv85] at hown2;have hcc:=HZc.out wz hC3;have hZ9:Hid (ZB (wz.setCell ⟨zb,1,none⟩ (.slice Ag (gl.length+1) cg)) w4.heap.size zb cl (gl++[n]) vC (.slice Ag (gl.length+1) cg)):=hZ2.out.setG' (gl':=gl++[n]) (by rw[List.length_append,intsV_append];exact hown2) hC3;have CR9:Hid (Chg (fun k=>k=zb) w4 (wz.setCell ⟨zb,1,none⟩ (.slice Ag (gl.length+1) cg))):=(Chg.trans CR2.out hC3 (fun i hi e=>by have:=(hZ2.out.og.lt i e).1;omega)).setCell (.inl rfl) _;have hB9:Hid (Blk (wz.setCell ⟨zb,1,none⟩ (.slice Ag (gl.length+1) cg)) xb 194 #[.int .i64 at',.int .i64 cs]):=by
          refine Blk.far (hB.out.chg hC3 (fun e=>own_blk_ne hZ2.out.og hB.out (by decide) e)) (fun e=>?_) _;have:xb=zb:=e;omega
         have hgR2:Hid (∀ x ∈ gl++[n],inR x):=by
          intro z hz;rcases List.mem_append.1 hz with hz | hz
          ·exact hgR.out z hz
          ·rw[List.mem_singleton.1 hz];exact hn
         refine wpOp_skip0 rfl rfl (w':=wz.setCell ⟨zb,1,none⟩ (.slice Ag (gl.length+1) cg)) (by simp[execOp,go_sem,Result.andThen,x86,x85',hcc.1,hcc.2]) rfl ?_;obtain ⟨w8,hw8⟩:∃ w8,w8=wz.setCell ⟨zb,1,none⟩ (.slice Ag (gl.length+1) cg):=⟨_,rfl⟩;rw[<-hw8] at hZ9 CR9 hB9 |-;have hgl2:(gl++[n]).length<=i+1:=by rw[List.length_append];simp;omega
         clear hw8 hcc hv85 x85' hown2 hown x86 x85 v85c hd hC3 hin hout HZc HZW HCP HGP hCs HLp HLii hwp hpl;subst ha;simp only[putAll,List.setIfInBounds_toArray,List.set_cons_succ,List.set_cons_zero];obtain ⟨zc0,zc1,zf⟩:=hZ9.out.cells;have xc0:w8.cell? ⟨xb,0,none⟩=some (.int .i64 at'):=by rw[hB9.out.cell];rfl
         have xc1:w8.cell? ⟨xb,1,none⟩=some (.int .i64 cs):=by rw[hB9.out.cell];rfl
         go_wp2_with (at_builtin;refine wpList_append_lies _ rfl (.tmp 88) (.tmp 90) 86 rfl w4.heap.size 194 i4 _ 2 16 Tryz.underlying86 hi4 z40 z41 z42 rfl (by omega) vC cl.length (cl.flatMap soC) rfl (by exact (hZ9.out.oc.alloc _)) ⟨w8.heap.size,0,none⟩ 1 1 (soC (at',cs)) rfl rfl (by exact all_new (Blk.new w8 194 #[.int .i64 at',.int .i64 cs])) (soC1_one _) (by omega) (by unfold maxLen;omega) (by omega) (by have:=CR9.out.size;simp;omega) (w8.heap.size+1) (by simp) ?_;intro g cap w9 hown9 hg9 hat9 hlt9;have hZa:=hZ9.out.chg ((Chg.refl (fun _=>False) w8).alloc (.cells #[.int .i64 at',.int .i64 cs] 194));have hZ10:Hid (ZB (w9.setCell ⟨zb,0,none⟩ (.slice (some ⟨g,0,none⟩) (cl.length+1) cap)) w4.heap.size zb (cl++[(at',cs)]) (gl++[n]) (.slice (some ⟨g,0,none⟩) (cl.length+1) cap) (.slice Ag (gl.length+1) cg)):=(hZa.setC (cl':=cl++[(at',cs)]) (by rw[List.length_append,List.flatMap_append];exact hown9) hg9);have CR10:Hid (Chg (fun k=>k=zb) w4 (w9.setCell ⟨zb,0,none⟩ (.slice (some ⟨g,0,none⟩) (cl.length+1) cap))):=(hZa.chgC (CR9.out.alloc (.cells #[.int .i64 at',.int .i64 cs] 194)) (Nat.le_refl _) (.inl rfl) hg9 _);have zz0:w9.cell? ⟨zb,0,none⟩=some vC:=(by rw[(hZa.blk.grown hg9 (fun e=>hZa.nC e.symm)).cell];rfl);have zzf:=(hZa.blk.grown hg9 (fun e=>hZa.nC e.symm)).frozen 0;clear hown9 hg9 hat9 hlt9 hZa)
         go_roundw
         case rel=>exact ⟨i+1,cl++[(at',cs)],(gl++[n]),_,_,by omega,by go_num,by rw[List.length_append,hcl.out];rfl,by exact hgl2,zI (by intro z hz;rcases List.mem_append.1 hz with hz | hz;exact hcR.out z hz;rw[List.mem_singleton.1 hz];exact ⟨hat.out,hcs.out⟩),hgR2,hZ10,CR10⟩
         case measure=>(simp[intOf]<;>omega)
       ·have di:decide ((0:Int) < (i:Int))=false:=by rw[dF];omega
        have diN:decide (0 < i)=false:=by rw[dF];omega
        obtain ⟨zc0,zc1,zf⟩:=hZ2.out.cells;have xc0:wq2.cell? ⟨xb,0,none⟩=some (.int .i64 at'):=by rw[hB.out.cell];rfl
        have xc1:wq2.cell? ⟨xb,1,none⟩=some (.int .i64 cs):=by rw[hB.out.cell];rfl
        go_wp2_with (at_builtin;refine wpList_append_lies _ rfl (.tmp 88) (.tmp 90) 86 rfl w4.heap.size 194 i4 _ 2 16 Tryz.underlying86 hi4 z40 z41 z42 rfl (by omega) vC cl.length (cl.flatMap soC) rfl (by exact (hZ2.out.oc.alloc _)) ⟨wq2.heap.size,0,none⟩ 1 1 (soC (at',cs)) rfl rfl (by exact all_new (Blk.new wq2 194 #[.int .i64 at',.int .i64 cs])) (soC1_one _) (by omega) (by unfold maxLen;omega) (by omega) (by have:=CR2.out.size;simp;omega) (wq2.heap.size+1) (by simp) ?_;intro g cap w9 hown9 hg9 hat9 hlt9;have hZa:=hZ2.out.chg ((Chg.refl (fun _=>False) wq2).alloc (.cells #[.int .i64 at',.int .i64 cs] 194));have hZ9:Hid (ZB (w9.setCell ⟨zb,0,none⟩ (.slice (some ⟨g,0,none⟩) (cl.length+1) cap)) w4.heap.size zb (cl++[(at',cs)]) gl (.slice (some ⟨g,0,none⟩) (cl.length+1) cap) vG):=(hZa.setC (cl':=cl++[(at',cs)]) (by rw[List.length_append,List.flatMap_append];exact hown9) hg9);have CR9:Hid (Chg (fun k=>k=zb) w4 (w9.setCell ⟨zb,0,none⟩ (.slice (some ⟨g,0,none⟩) (cl.length+1) cap))):=(hZa.chgC (CR2.out.alloc (.cells #[.int .i64 at',.int .i64 cs] 194)) (Nat.le_refl _) (.inl rfl) hg9 _);have zz0:w9.cell? ⟨zb,0,none⟩=some vC:=(by rw[(hZa.blk.grown hg9 (fun e=>hZa.nC e.symm)).cell];rfl);have zzf:=(hZa.blk.grown hg9 (fun e=>hZa.nC e.symm)).frozen 0;clear hown9 hg9 hat9 hlt9 hZa)
        go_roundw
        case rel=>exact ⟨i+1,cl++[(at',cs)],gl,_,_,by omega,by go_num,by rw[List.length_append,hcl.out];rfl,by omega,zI (by intro z hz;rcases List.mem_append.1 hz with hz | hz;exact hcR.out z hz;rw[List.mem_singleton.1 hz];exact ⟨hat.out,hcs.out⟩),hgR,hZ9,CR9⟩
        case measure=>(simp[intOf]<;>omega)
  ·obtain rfl:i=l.length:=by omega
   obtain ⟨z,hz,hz1,hz2,hz3⟩:=hZ.out.zt ⟨by omega,by omega⟩ hcR.out hgR.out;have hcl':=hcl.out;have hbl:=hZ.out.blk;rw[<-hz] at hbl;have f0:wr.cell? ⟨zb,0,none⟩=some (.slice z.cA z.cl.length z.cC):=by rw[hbl.cell];rfl
   have f1:wr.cell? ⟨zb,1,none⟩=some (.slice z.gA z.gl.length z.gC):=by rw[hbl.cell];rfl
   have C5:=zI (Ct C3.out (HT.out wr CR.out));have BR5:=zI (BR3.out.chg (HT.out wr CR.out) (fun h=>h));have r0:wr.cell? ⟨w.heap.size,0,none⟩=some (.slice none 0 0):=by rw[BR5.out.cell];rfl
   have r1:wr.cell? ⟨w.heap.size,1,none⟩=some (.slice none 0 0):=by rw[BR5.out.cell];rfl
   have rf:=BR5.out.frozen;have hR:=zI (blk_st2 BR5.out (.slice z.cA z.cl.length z.cC) (.slice z.gA z.gl.length z.gC));have hfin:Hid (ZoR (a.length+q.length) (a.length+q.length) (.agg (zA z)) ((wr.setCell ⟨w.heap.size,0,none⟩ (.slice z.cA z.cl.length z.cC)).setCell ⟨w.heap.size,1,none⟩ (.slice z.gA z.gl.length z.gC))):=
    ⟨z,rfl,hz3.far hR.out.2 (fun k hk _=>⟨88,#[.slice none 0 0,.slice none 0 0],hk ▸ BR5.out,by decide,by decide⟩),by rw[hz1];omega,by rw[hz2];omega⟩
   clear hcl';clear hz hz1 hz2 hz3 hbl;go_wp2
   exact bodyPost_ret (results_cell_row rfl _ _ _ _ _ _ _ rfl hR.out.1 Tryz.underlying88 rfl (by kernel_rfl)) rfl ⟨⟨_,rfl,hfin.out⟩,Chg.trans C5.out hR.out.2 (fun i hi e=>by omega)⟩
theorem form_any (w:World) (A:Option Addr) (c:Nat) (l:List Nm.Inst) (hl:0 < l.length) (hl2:l.length<=4000000) (hr:Rd w w.heap.size A (l.flatMap instV7)):Calls Tryz.prog 15 #[.slice A l.length c] w fun e w'=>e=.returned (.agg #[.int .i64 (formV l).1,.int .i64 (formV l).2])/\Chg (fun _=>False) w w':=by
 have C1:Hid (Chg (fun _=>False) w (w.alloc (.cells #[.int .i64 0,.int .i64 0] 62))):=(Chg.refl _ w).alloc _;have hR1:=hr.later C1.out (fun _ h=>h.elim);obtain ⟨k,hk⟩:∃ k,l.length=k+1:=⟨l.length - 1,by omega⟩;obtain ⟨x,hx⟩:∃ x,l[k]?=some x:=⟨_,gG (by omega)⟩;have hx1:lastO l 1=x.op:=lastO_at (by rw[hk];exact hx);obtain ⟨xb,o,hA,-,c0,-,-,-,-,-,-⟩:=ins_at hR1 hx;subst hA;rw[show k=l.length - 1 by omega] at c0;have hkl:l.length - 1 < l.length:=by omega
 obtain ⟨b15,h15⟩:∃ b,(x.op ==15)=b:=⟨_,rfl⟩;cases b15 with
 | false=>
  have hv:Hid (formV l=(x.op,0)):=by
   show _=_;unfold formV;rw[hx1,if_neg];intro h;rw[h.1] at h15;simp at h15
  have hE:=zI (Blk.new w 62 #[.int .i64 x.op,.int .i64 0]);have CE:Hid (Chg (fun _=>False) w (w.alloc (.cells #[.int .i64 x.op,.int .i64 0] 62))):=(Chg.refl _ w).alloc _;clear hx hx1 hR1 hr hk;go_enter Tryz.func15,Tryz.ntmps15;go_wp2
  exact bodyPost_ret (results_cell_row rfl _ _ _ _ _ _ _ rfl hE.out Tryz.underlying62 rfl (by kernel_rfl)) rfl ⟨by rw[hv.out],CE.out⟩
 | true=>
  have h15':x.op=15:=by simpa using h15
  obtain ⟨b1,hb1⟩:∃ b,decide (1 < l.length)=b:=⟨_,rfl⟩;have hb1I:decide ((1:Int) < (l.length:Int))=b1:=by rw[<-hb1,decide_eq_decide];omega
  cases b1 with
  | false=>
   have hv:Hid (formV l=(x.op,0)):=by
    show _=_;unfold formV;rw[hx1,if_neg];intro h;exact absurd h.2 (of_decide_eq_false hb1)
   have hE:=zI (Blk.new w 62 #[.int .i64 x.op,.int .i64 0]);have CE:Hid (Chg (fun _=>False) w (w.alloc (.cells #[.int .i64 x.op,.int .i64 0] 62))):=(Chg.refl _ w).alloc _;clear hx hx1 hR1 hr hk h15';go_enter Tryz.func15,Tryz.ntmps15;go_wp2
   exact bodyPost_ret (results_cell_row rfl _ _ _ _ _ _ _ rfl hE.out Tryz.underlying62 rfl (by kernel_rfl)) rfl ⟨by rw[hv.out],CE.out⟩
  | true=>
   have hl1:1 < l.length:=of_decide_eq_true hb1;obtain ⟨j,hj⟩:∃ j,k=j+1:=⟨k - 1,by omega⟩;obtain ⟨y,hy⟩:∃ y,l[j]?=some y:=⟨_,gG (by omega)⟩;have hy1:lastO l 2=y.op:=lastO_at (by rw[hk,hj];exact hy);obtain ⟨yb,yo,hA,-,d0,-,-,-,-,-,-⟩:=ins_at hR1 hy;injection hA with hA;injection hA with hA1 hA2 _;subst hA1;subst hA2;rw[show j=l.length - 2 by omega] at d0;have hjl:l.length - 2 < l.length:=by omega
   have hv:Hid (formV l=(15,y.op)):=by
    show _=_;unfold formV;rw[hx1,if_pos ⟨h15',hl1⟩,hy1]
   have hE:=zI (Blk.new w 62 #[.int .i64 15,.int .i64 y.op]);have CE:Hid (Chg (fun _=>False) w (w.alloc (.cells #[.int .i64 15,.int .i64 y.op] 62))):=(Chg.refl _ w).alloc _;clear hx hx1 hR1 hr hk h15' hy hy1 hj;go_enter Tryz.func15,Tryz.ntmps15;go_wp2
   exact bodyPost_ret (results_cell_row rfl _ _ _ _ _ _ _ rfl hE.out Tryz.underlying62 rfl (by kernel_rfl)) rfl ⟨by rw[hv.out],CE.out⟩
end
end Go.Proofs.YthohgagkjnbkbaaGreat
