/- FragTrue, part 2: RefFree RefEnab Base Who. Each theorem says what a function does, or a plain fact, under its own premises alone. -/
import Derived.Test.YthohgagkjnbkbaaGreatP1
set_option maxRecDepth 100000
set_option maxHeartbeats 16000000
namespace Go.Proofs.YthohgagkjnbkbaaGreat
section
open Go.RowKit
theorem hasB_pos {a i:Int} (h:hasB a i=true):0<=i:=by
 unfold hasB at h;rw[Bool.and_eq_true,dT] at h;exact h.1.1
theorem refFree_any (w:World) (m:MC) (s:SC) (e u:Int) (hG:Good w m s):Calls Tryz.prog 116 #[.agg (mA m),.agg (sA s),.int .i64 e,.int .i64 u] w fun r w'=>r=.returned (.bool (freeB m s e u))/\Chg (fun _=>False) w w':=by
 have hlens:=hG.lens;unfold maxLen at hlens;obtain ⟨-,-,-,hnR,hnS,hnE,-⟩:=hlens;have hb:=Boxes.new w m s;have hC0:=zI (((Chg.refl (fun _=>False) w).alloc (.cells (mA m) 32)).alloc (.cells (sA s) 134));have HG:=zI hG;by_cases h0:¬ (0<=e/\e < m.ev.length)
 ·have hv:Hid (freeB m s e u=false):=by show _=_;unfold freeB;rw[evAt_out h0]
  have i1:Hid (decide (0<=e/\e < (m.ev.length:Int))=false):=by show _=_;rw[dF];exact h0
  unfold mA sA at hC0;unfold mA sA;clear hb hG h0;go_enter Tryz.func116,Tryz.ntmps116;go_wp2_with (go_at_call 123;refine (in_any _ _ _).mono ?_;rintro e w' ⟨rfl,rfl⟩;rw[i1.out])
  go_ret;exact ⟨by rw[hv.out];rfl,hC0.out⟩
 replace h0:=Decidable.not_not.1 h0;have i1:Hid (decide (0<=e/\e < (m.ev.length:Int))=true):=by show _=_;rw[dT];exact h0
 obtain ⟨x,hx,hx2⟩:=evAt_in h0;obtain ⟨k,rfl⟩:∃ k:Nat,e=k:=⟨e.toNat,by omega⟩;rw[Int.toNat_natCast] at hx2;have hkl:k < m.ev.length:=by omega
 have hv:freeB m s k u=(!com m s && (decide (x.stage < m.nS) && hasB s.op x.stage) && ofB m x.role u && (decide (x.times<=0) || decide (atV s.cnt k < x.times))):=by unfold freeB;rw[hx]
 by_cases h1:¬ (0<=u/\u < m.nU)
 ·have hU:Hid (freeB m s k u=false):=by
   show _=_;rw[hv];have:ofB m x.role u=false:=by
    unfold ofB;split
    ·rw[show decide (0<=u/\u < (m.nU:Int))=false by rw[dF];exact h1,Bool.false_and]
    ·rfl
   rw[this];simp
  have i2:Hid (decide (0<=u/\u < (m.nU:Int))=false):=by show _=_;rw[dF];exact h1
  unfold mA sA at hC0;unfold mA sA;clear hb hG h0 h1 hv hx hx2;go_enter Tryz.func116,Tryz.ntmps116;go_wp2_with (go_at_call 123;refine (in_any _ _ _).mono ?_;rintro e w' ⟨rfl,rfl⟩;first | rw[i1.out] | rw[i2.out])
  go_ret;exact ⟨by rw[hU.out];rfl,hC0.out⟩
 replace h1:=Decidable.not_not.1 h1;have i2:Hid (decide (0<=u/\u < (m.nU:Int))=true):=by show _=_;rw[dT];exact h1
 obtain ⟨cm,hcm⟩:∃ cm,cm=com m s:=⟨_,rfl⟩;rw[<-hcm] at hv;have HCM:=zI (fun (w':World) (h:Chg (fun _=>False) w w')=>refCom_any w' m s (hG.later h));rw[<-hcm] at HCM;obtain ⟨hvb,hhv⟩:∃ hvb,hvb=hasB s.op x.stage:=⟨_,rfl⟩;rw[<-hhv] at hv;have hpos:hvb=true->0<=x.stage:=fun h=>hasB_pos (hhv ▸ h)
 have HH:=zI (fun w=>refHas_any w s.op x.stage hG.opR);rw[<-hhv] at HH;obtain ⟨av,hav⟩:∃ av,av=atV s.cnt k:=⟨_,rfl⟩;rw[<-hav] at hv;replace hcm:=zI hcm;replace hhv:=zI hhv;have HX:=zI hx2;replace hb:=zI hb;obtain ⟨g,hg⟩:∃ g,g=w.heap.size:=⟨_,rfl⟩;obtain ⟨q,hq⟩:∃ q,q=w.heap.size+1:=⟨_,rfl⟩;rw[<-hq,<-hg] at hb;obtain ⟨b,o,hA,hbl,hc⟩:=row_at (f:=evC) (C:=5) (fun _=>rfl) (by omega) hG.ev hx2;have two:∀ (p:Addr) (v:Value) (o1 o2:Obj),w.cell? p=some v->((w.alloc o1).alloc o2).cell? p=some v:=fun p v o1 o2 h=>by
  have hl:=World.block_lt_of_cell? w p h;rw[World.cell?_alloc_lt _ _ _ (by simp;omega),World.cell?_alloc_lt _ _ _ hl];exact h
 have c0:=fun o1 o2=>two _ _ o1 o2 (hc 0 _ rfl)
 have c1:=fun o1 o2=>two _ _ o1 o2 (hc 1 _ rfl)
 have c2:=fun o1 o2=>two _ _ o1 o2 (hc 2 _ rfl)
 have c3:=fun o1 o2=>two _ _ o1 o2 (hc 3 _ rfl)
 have c4:=fun o1 o2=>two _ _ o1 o2 (hc 4 _ rfl)
 rw[Nat.add_zero] at c0;clear hG hx hx2 h0 two hc;unfold mA sA;unfold mA sA at HCM;rw[hA] at HCM |-;go_enter Tryz.func116,Tryz.ntmps116;go_wp2_with (go_at_call 123;refine (in_any _ _ _).mono ?_;rintro e w' ⟨rfl,rfl⟩;first | rw[i1.out] | rw[i2.out])
 obtain ⟨w1,hw1⟩:∃ w1,w1=(w.alloc (.cells (mA m) 32)).alloc (.cells (sA s) 134):=⟨_,rfl⟩;rw[<-hw1] at hb hC0;unfold mA sA at hw1;rw[hA] at hw1;have hz1:w1.heap.size=q+1:=by rw[hw1,hq];simp
 rw[<-hw1,<-hq,<-hg];clear hw1 hq hg c0 c1 c2 c3 c4;have hbz:=Blk.new w1 73 #[.string x.nm,.int .i64 x.role,.int .i64 x.stage,.slice x.sa x.sn x.sc,.int .i64 x.times];have hb3:Boxes (w1.alloc (.cells #[.string x.nm,.int .i64 x.role,.int .i64 x.stage,.slice x.sa x.sn x.sc,.int .i64 x.times] 73)) g q m s:=⟨hb.out.m.alloc _,hb.out.s.alloc _⟩;have HC3:=zI (hC0.out.alloc (.cells #[.string x.nm,.int .i64 x.role,.int .i64 x.stage,.slice x.sa x.sn x.sc,.int .i64 x.times] 73));rw[hz1] at hbz;obtain ⟨z,hz⟩:∃ z,z=q+1:=⟨_,rfl⟩;rw[<-hz] at hbz |-;clear hz1;obtain ⟨w3,hw3⟩:∃ w3,w3=w1.alloc (.cells #[.string x.nm,.int .i64 x.role,.int .i64 x.stage,.slice x.sa x.sn x.sc,.int .i64 x.times] 73):=⟨_,rfl⟩;rw[<-hw3] at hbz hb3 HC3 |-;clear hw3 hz hb hC0;obtain ⟨e0,e1,e2,e3,e4,e5,e6,e7,e8,e9⟩:=mcells hb3.m;obtain ⟨f0,f1,f2,f3,f4⟩:=scells hb3.s;rw[hA] at e5;replace hA:=zI hA;have HRO:=zI (fun (w':World) (h:Chg (fun _=>False) w w')=>(HG.out.later h).ro);have HUS:=zI HG.out.usR;have hopR:=zI HG.out.opR;replace hv:=zI hv;replace hpos:=zI hpos;replace hbz:=zI hbz;replace hb3:=zI hb3;by_cases hcn:k < s.cnt.length
 ·have i3:Hid (decide ((0:Int)<=(k:Int)/\(k:Int) < (s.cnt.length:Int))=true):=by show _=_;rw[dT];omega
  obtain ⟨b3,o3,hA3,_,hc3⟩:=row_at (f:=inC) (C:=1) (fun _=>rfl) (by omega) (HG.out.later HC3.out).cnt (gG hcn);have t0:=hc3 0 _ rfl;rw[Nat.mul_one,Nat.add_zero] at t0;have hv2:av=s.cnt[k]:=by rw[hav];unfold atV;rw[if_pos (by omega),List.getD_eq_getElem?_getD,Int.toNat_natCast,gG hcn];rfl
  rw[<-hv2] at t0;rw[hA3] at f4;replace hav:=zI hav;replace hA3:=zI hA3;clear hc3 hv2;refine (in_any _ _ _).mono ?_;rintro e w' ⟨rfl,rfl⟩;rw[i3.out];have HC5:=HC3;rw[hA3.out] at HCM |-;go_wp2_with fail
  refine (HCM.out _ HC3.out).mono ?_;rintro r w4 ⟨rfl,h⟩;have HC4:=zI (Ct HC3.out h);have hb4:=hb3.out.later h;have hz4:=hbz.out.chg h (fun h=>h);clear h e0 e1 e2 e3 e4 e5 e6 e7 e8 e9 f0 f1 f2 f3 f4;obtain ⟨-,-,-,e3,e4,-,-,-,-,-⟩:=mcells hb4.m;obtain ⟨-,f1,-,-,-⟩:=scells hb4.s;have v1:w4.cell? ⟨z,1,none⟩=some (.int .i64 x.role):=by rw[hz4.cell];rfl
  have v2:w4.cell? ⟨z,2,none⟩=some (.int .i64 x.stage):=by rw[hz4.cell];rfl
  have v4:w4.cell? ⟨z,4,none⟩=some (.int .i64 x.times):=by rw[hz4.cell];rfl
  clear hb4 hz4;cases cm with
  | true=>
   have hU:Hid (freeB m s k u=false):=zI (by rw[hv.out];simp);go_wp2
   go_ret;exact ⟨by rw[hU.out];rfl,HC4.out⟩
  | false=>
   by_cases h4:0<=x.stage/\x.stage < m.nS
   ·have i4:Hid (decide (0<=x.stage/\x.stage < (m.nS:Int))=true):=by show _=_;rw[dT];exact h4
    have g4:=zI h4.2;clear h4;cases hvb with
    | false=>
     have hU:Hid (freeB m s k u=false):=zI (by rw[hv.out];simp);go_wp2_with (first | (go_at_call 123;refine (in_any _ _ _).mono ?_;rintro e w' ⟨rfl,rfl⟩;rw[i4.out]) | (go_at_call 99;refine Calls.mono (refHas_any _ _ _ (by exact hopR.out)) ?_;rintro e w' ⟨rfl,rfl⟩;try rw[<-hhv.out]))
     go_ret;exact ⟨by rw[hU.out];rfl,HC4.out⟩
    | true=>
     by_cases h6:0 < x.times
     ·have d6:decide (0 < x.times)=true:=by rw[dT];exact h6
      have d6b:decide (x.times<=0)=false:=by rw[dF];omega
      by_cases h7:x.times<=av
      ·have d7:decide (x.times<=av)=true:=by rw[dT];exact h7
       have d7b:decide (av < x.times)=false:=by rw[dF];omega
       have hU:Hid (freeB m s k u=false):=zI (by rw[hv.out,d6b,d7b];simp);clear h6 h7 d6b d7b;go_wp2_with (first | (go_at_call 123;refine (in_any _ _ _).mono ?_;rintro e w' ⟨rfl,rfl⟩;rw[i4.out]) | (go_at_call 99;refine Calls.mono (refHas_any _ _ _ (by exact hopR.out)) ?_;rintro e w' ⟨rfl,rfl⟩;try rw[<-hhv.out]))
       go_ret;exact ⟨by rw[hU.out];rfl,HC4.out⟩
      ·have d7:decide (x.times<=av)=false:=by rw[dF];exact h7
       have d7b:=zI (show av < x.times by omega);clear h6 h7 d6b;by_cases h5:0<=x.role/\x.role < m.ro.length
       ·have i5:Hid (decide (0<=x.role/\x.role < (m.ro.length:Int))=true):=by show _=_;rw[dT];exact h5
        obtain ⟨y,hy,hy2⟩:=roAt_in h5;have hO:ofB m x.role u=hasB y.us u:=by unfold ofB;rw[hy];simp only;rw[show decide (0<=u/\u < (m.nU:Int))=true by rw[dT];exact h1,Bool.true_and]
        have hU:Hid (freeB m s k u=hasB y.us u):=zI (by rw[hv.out,hO];simp[g4.out,d7b.out]);have hus:=zI (HUS.out y (List.mem_of_getElem? hy2));obtain ⟨rk,hrk⟩:∃ rk:Nat,x.role=rk:=⟨x.role.toNat,by omega⟩;rw[hrk] at hy2 v1 i5;rw[Int.toNat_natCast] at hy2;have hrl:rk < m.ro.length:=by omega
        obtain ⟨b5,o5,hA5,hb5,hc5⟩:=row_at (f:=roC) (C:=2) (fun _=>rfl) (by omega) (HRO.out _ HC4.out) hy2;have r1:=hc5 1 _ rfl;rw[hA5] at e3;clear hc5 hy hy2 hO hrk h5 hA5;go_wp2_with (first | (go_at_call 123;refine (in_any _ _ _).mono ?_;rintro e w' ⟨rfl,rfl⟩;first | rw[i4.out] | rw[i5.out]) | (go_at_call 99;refine Calls.mono (refHas_any _ _ _ (by first | exact hopR.out | exact hus.out)) ?_;rintro e w' ⟨rfl,rfl⟩;try rw[<-hhv.out]))
        go_ret;exact ⟨by rw[hU.out];rfl,HC4.out⟩
       ·have i5:Hid (decide (0<=x.role/\x.role < (m.ro.length:Int))=false):=by show _=_;rw[dF];exact h5
        have hU:Hid (freeB m s k u=false):=zI (by
         rw[hv.out];have:ofB m x.role u=false:=by unfold ofB;rw[roAt_out h5]
         rw[this];simp)
        clear h5;go_wp2_with (first | (go_at_call 123;refine (in_any _ _ _).mono ?_;rintro e w' ⟨rfl,rfl⟩;first | rw[i4.out] | rw[i5.out]) | (go_at_call 99;refine Calls.mono (refHas_any _ _ _ (by exact hopR.out)) ?_;rintro e w' ⟨rfl,rfl⟩;try rw[<-hhv.out]))
        go_ret;exact ⟨by rw[hU.out];rfl,HC4.out⟩
     ·have d6:decide (0 < x.times)=false:=by rw[dF];exact h6
      have d6b:=zI (show x.times<=0 by omega);clear h6;by_cases h5:0<=x.role/\x.role < m.ro.length
      ·have i5:Hid (decide (0<=x.role/\x.role < (m.ro.length:Int))=true):=by show _=_;rw[dT];exact h5
       obtain ⟨y,hy,hy2⟩:=roAt_in h5;have hO:ofB m x.role u=hasB y.us u:=by unfold ofB;rw[hy];simp only;rw[show decide (0<=u/\u < (m.nU:Int))=true by rw[dT];exact h1,Bool.true_and]
       have hU:Hid (freeB m s k u=hasB y.us u):=zI (by rw[hv.out,hO];simp[g4.out,d6b.out]);have hus:=zI (HUS.out y (List.mem_of_getElem? hy2));obtain ⟨rk,hrk⟩:∃ rk:Nat,x.role=rk:=⟨x.role.toNat,by omega⟩;rw[hrk] at hy2 v1 i5;rw[Int.toNat_natCast] at hy2;have hrl:rk < m.ro.length:=by omega
       obtain ⟨b5,o5,hA5,hb5,hc5⟩:=row_at (f:=roC) (C:=2) (fun _=>rfl) (by omega) (HRO.out _ HC4.out) hy2;have r1:=hc5 1 _ rfl;rw[hA5] at e3;clear hc5 hy hy2 hO hrk h5 hA5;go_wp2_with (first | (go_at_call 123;refine (in_any _ _ _).mono ?_;rintro e w' ⟨rfl,rfl⟩;first | rw[i4.out] | rw[i5.out]) | (go_at_call 99;refine Calls.mono (refHas_any _ _ _ (by first | exact hopR.out | exact hus.out)) ?_;rintro e w' ⟨rfl,rfl⟩;try rw[<-hhv.out]))
       go_ret;exact ⟨by rw[hU.out];rfl,HC4.out⟩
      ·have i5:Hid (decide (0<=x.role/\x.role < (m.ro.length:Int))=false):=by show _=_;rw[dF];exact h5
       have hU:Hid (freeB m s k u=false):=zI (by
        rw[hv.out];have:ofB m x.role u=false:=by unfold ofB;rw[roAt_out h5]
        rw[this];simp)
       clear h5;go_wp2_with (first | (go_at_call 123;refine (in_any _ _ _).mono ?_;rintro e w' ⟨rfl,rfl⟩;first | rw[i4.out] | rw[i5.out]) | (go_at_call 99;refine Calls.mono (refHas_any _ _ _ (by exact hopR.out)) ?_;rintro e w' ⟨rfl,rfl⟩;try rw[<-hhv.out]))
       go_ret;exact ⟨by rw[hU.out];rfl,HC4.out⟩
   ·have i4:Hid (decide (0<=x.stage/\x.stage < (m.nS:Int))=false):=by show _=_;rw[dF];exact h4
    have hU:Hid (freeB m s k u=false):=zI (by
     rw[hv.out];have:(decide (x.stage < (m.nS:Int)) && hvb)=false:=by
      cases hvb with
      | false=>simp
      | true=>
       have:=hpos.out rfl;rw[Bool.and_true,dF];omega
     rw[this];simp)
    clear h4;go_wp2_with (go_at_call 123;refine (in_any _ _ _).mono ?_;rintro e w' ⟨rfl,rfl⟩;rw[i4.out])
    go_ret;exact ⟨by rw[hU.out];rfl,HC4.out⟩
 ·have i3:Hid (decide ((0:Int)<=(k:Int)/\(k:Int) < (s.cnt.length:Int))=false):=by show _=_;rw[dF];omega
  have hv2:av=0:=by rw[hav];unfold atV;rw[if_pos (by omega),List.getD_eq_getElem?_getD,Int.toNat_natCast,List.getElem?_eq_none (by omega)];rfl
  subst hv2;replace hav:=zI hav;refine (in_any _ _ _).mono ?_;rintro e w' ⟨rfl,rfl⟩;rw[i3.out];go_wp2_with fail
  refine (HCM.out _ HC3.out).mono ?_;rintro r w4 ⟨rfl,h⟩;have HC4:=zI (Ct HC3.out h);have hb4:=hb3.out.later h;have hz4:=hbz.out.chg h (fun h=>h);clear h e0 e1 e2 e3 e4 e5 e6 e7 e8 e9 f0 f1 f2 f3 f4;obtain ⟨-,-,-,e3,e4,-,-,-,-,-⟩:=mcells hb4.m;obtain ⟨-,f1,-,-,-⟩:=scells hb4.s;have v1:w4.cell? ⟨z,1,none⟩=some (.int .i64 x.role):=by rw[hz4.cell];rfl
  have v2:w4.cell? ⟨z,2,none⟩=some (.int .i64 x.stage):=by rw[hz4.cell];rfl
  have v4:w4.cell? ⟨z,4,none⟩=some (.int .i64 x.times):=by rw[hz4.cell];rfl
  clear hb4 hz4;cases cm with
  | true=>
   have hU:Hid (freeB m s k u=false):=zI (by rw[hv.out];simp);go_wp2
   go_ret;exact ⟨by rw[hU.out];rfl,HC4.out⟩
  | false=>
   by_cases h4:0<=x.stage/\x.stage < m.nS
   ·have i4:Hid (decide (0<=x.stage/\x.stage < (m.nS:Int))=true):=by show _=_;rw[dT];exact h4
    have g4:=zI h4.2;clear h4;cases hvb with
    | false=>
     have hU:Hid (freeB m s k u=false):=zI (by rw[hv.out];simp);go_wp2_with (first | (go_at_call 123;refine (in_any _ _ _).mono ?_;rintro e w' ⟨rfl,rfl⟩;rw[i4.out]) | (go_at_call 99;refine Calls.mono (refHas_any _ _ _ (by exact hopR.out)) ?_;rintro e w' ⟨rfl,rfl⟩;try rw[<-hhv.out]))
     go_ret;exact ⟨by rw[hU.out];rfl,HC4.out⟩
    | true=>
     by_cases h6:0 < x.times
     ·have d6:decide (0 < x.times)=true:=by rw[dT];exact h6
      have d6b:decide (x.times<=0)=false:=by rw[dF];omega
      by_cases h7:x.times<=0
      ·omega
      ·have d7:decide (x.times<=0)=false:=by rw[dF];exact h7
       have d7b:=zI (show 0 < x.times by omega);clear h6 h7 d6b;by_cases h5:0<=x.role/\x.role < m.ro.length
       ·have i5:Hid (decide (0<=x.role/\x.role < (m.ro.length:Int))=true):=by show _=_;rw[dT];exact h5
        obtain ⟨y,hy,hy2⟩:=roAt_in h5;have hO:ofB m x.role u=hasB y.us u:=by unfold ofB;rw[hy];simp only;rw[show decide (0<=u/\u < (m.nU:Int))=true by rw[dT];exact h1,Bool.true_and]
        have hU:Hid (freeB m s k u=hasB y.us u):=zI (by rw[hv.out,hO];simp[g4.out,d7b.out]);have hus:=zI (HUS.out y (List.mem_of_getElem? hy2));obtain ⟨rk,hrk⟩:∃ rk:Nat,x.role=rk:=⟨x.role.toNat,by omega⟩;rw[hrk] at hy2 v1 i5;rw[Int.toNat_natCast] at hy2;have hrl:rk < m.ro.length:=by omega
        obtain ⟨b5,o5,hA5,hb5,hc5⟩:=row_at (f:=roC) (C:=2) (fun _=>rfl) (by omega) (HRO.out _ HC4.out) hy2;have r1:=hc5 1 _ rfl;rw[hA5] at e3;clear hc5 hy hy2 hO hrk h5 hA5;go_wp2_with (first | (go_at_call 123;refine (in_any _ _ _).mono ?_;rintro e w' ⟨rfl,rfl⟩;first | rw[i4.out] | rw[i5.out]) | (go_at_call 99;refine Calls.mono (refHas_any _ _ _ (by first | exact hopR.out | exact hus.out)) ?_;rintro e w' ⟨rfl,rfl⟩;try rw[<-hhv.out]))
        go_ret;exact ⟨by rw[hU.out];rfl,HC4.out⟩
       ·have i5:Hid (decide (0<=x.role/\x.role < (m.ro.length:Int))=false):=by show _=_;rw[dF];exact h5
        have hU:Hid (freeB m s k u=false):=zI (by
         rw[hv.out];have:ofB m x.role u=false:=by unfold ofB;rw[roAt_out h5]
         rw[this];simp)
        clear h5;go_wp2_with (first | (go_at_call 123;refine (in_any _ _ _).mono ?_;rintro e w' ⟨rfl,rfl⟩;first | rw[i4.out] | rw[i5.out]) | (go_at_call 99;refine Calls.mono (refHas_any _ _ _ (by exact hopR.out)) ?_;rintro e w' ⟨rfl,rfl⟩;try rw[<-hhv.out]))
        go_ret;exact ⟨by rw[hU.out];rfl,HC4.out⟩
     ·have d6:decide (0 < x.times)=false:=by rw[dF];exact h6
      have d6b:=zI (show x.times<=0 by omega);clear h6;by_cases h5:0<=x.role/\x.role < m.ro.length
      ·have i5:Hid (decide (0<=x.role/\x.role < (m.ro.length:Int))=true):=by show _=_;rw[dT];exact h5
       obtain ⟨y,hy,hy2⟩:=roAt_in h5;have hO:ofB m x.role u=hasB y.us u:=by unfold ofB;rw[hy];simp only;rw[show decide (0<=u/\u < (m.nU:Int))=true by rw[dT];exact h1,Bool.true_and]
       have hU:Hid (freeB m s k u=hasB y.us u):=zI (by rw[hv.out,hO];simp[g4.out,d6b.out]);have hus:=zI (HUS.out y (List.mem_of_getElem? hy2));obtain ⟨rk,hrk⟩:∃ rk:Nat,x.role=rk:=⟨x.role.toNat,by omega⟩;rw[hrk] at hy2 v1 i5;rw[Int.toNat_natCast] at hy2;have hrl:rk < m.ro.length:=by omega
       obtain ⟨b5,o5,hA5,hb5,hc5⟩:=row_at (f:=roC) (C:=2) (fun _=>rfl) (by omega) (HRO.out _ HC4.out) hy2;have r1:=hc5 1 _ rfl;rw[hA5] at e3;clear hc5 hy hy2 hO hrk h5 hA5;go_wp2_with (first | (go_at_call 123;refine (in_any _ _ _).mono ?_;rintro e w' ⟨rfl,rfl⟩;first | rw[i4.out] | rw[i5.out]) | (go_at_call 99;refine Calls.mono (refHas_any _ _ _ (by first | exact hopR.out | exact hus.out)) ?_;rintro e w' ⟨rfl,rfl⟩;try rw[<-hhv.out]))
       go_ret;exact ⟨by rw[hU.out];rfl,HC4.out⟩
      ·have i5:Hid (decide (0<=x.role/\x.role < (m.ro.length:Int))=false):=by show _=_;rw[dF];exact h5
       have hU:Hid (freeB m s k u=false):=zI (by
        rw[hv.out];have:ofB m x.role u=false:=by unfold ofB;rw[roAt_out h5]
        rw[this];simp)
       clear h5;go_wp2_with (first | (go_at_call 123;refine (in_any _ _ _).mono ?_;rintro e w' ⟨rfl,rfl⟩;first | rw[i4.out] | rw[i5.out]) | (go_at_call 99;refine Calls.mono (refHas_any _ _ _ (by exact hopR.out)) ?_;rintro e w' ⟨rfl,rfl⟩;try rw[<-hhv.out]))
       go_ret;exact ⟨by rw[hU.out];rfl,HC4.out⟩
   ·have i4:Hid (decide (0<=x.stage/\x.stage < (m.nS:Int))=false):=by show _=_;rw[dF];exact h4
    have hU:Hid (freeB m s k u=false):=zI (by
     rw[hv.out];have:(decide (x.stage < (m.nS:Int)) && hvb)=false:=by
      cases hvb with
      | false=>simp
      | true=>
       have:=hpos.out rfl;rw[Bool.and_true,dF];omega
     rw[this];simp)
    clear h4;go_wp2_with (go_at_call 123;refine (in_any _ _ _).mono ?_;rintro e w' ⟨rfl,rfl⟩;rw[i4.out])
    go_ret;exact ⟨by rw[hU.out];rfl,HC4.out⟩
theorem refEn_any (w:World) (m:MC) (s:SC) (e u:Int) (hG:Good w m s):Calls Tryz.prog 87 #[.agg (mA m),.agg (sA s),.int .i64 e,.int .i64 u] w fun r w'=>r=.returned (.bool (enB m s e u))/\Chg (fun _=>False) w w':=by
 have hlen:=hG.lens.2.2.2.2.2.2.2.2.1;unfold maxLen at hlen;have hb:=Boxes.new w m s;have hC0:=((Chg.refl (fun _=>False) w).alloc (.cells (mA m) 32)).alloc (.cells (sA s) 134);have HG:=zI hG;have HF:=zI (fun (w':World) (h:Chg (fun _=>False) w w')=>refFree_any w' m s e u (hG.later h));obtain ⟨fv,hfv⟩:∃ fv,fv=freeB m s e u:=⟨_,rfl⟩;have hU:enB m s e u=(fv && !apB m s e u):=by unfold enB;rw[hfv]
 rw[hU];rw[<-hfv] at HF;clear hU hfv;unfold mA sA at HF;unfold mA sA;go_enter Tryz.func87,Tryz.ntmps87;go_wp2_with fail
 obtain ⟨w1,hw1⟩:∃ w1,w1=(w.alloc (.cells (mA m) 32)).alloc (.cells (sA s) 134):=⟨_,rfl⟩;rw[<-hw1] at hb hC0;unfold mA sA at hw1;rw[<-hw1];clear hw1;obtain ⟨k,hk⟩:∃ k,k=w.heap.size+1:=⟨_,rfl⟩;obtain ⟨g,hg⟩:∃ g,g=w.heap.size:=⟨_,rfl⟩;rw[<-hk,<-hg] at hb |-;clear hk hg hG;refine (HF.out _ hC0).mono ?_;rintro r w2 ⟨rfl,h⟩;have HB:=zI (hb.later h);have HC0:=zI (Ct hC0 h);clear h hb hC0 HF;cases fv with
 | false=>
  go_wp2
  go_ret;exact ⟨rfl,HC0.out⟩
 | true=>
  go_wp2_with fail
  go_loopw [9] (fun i wr=>∃ j:Nat,j<=m.so.length/\i=.int .i64 j/\Hid ((m.so.take j).any (apX s e u)=false)/\Hid (Chg (fun _=>False) w2 wr)) (fun i _=>m.so.length - (intOf i).toNat)
  case atStart=>exact ⟨0,Nat.zero_le _,rfl,zI rfl,Chg.refl _ _⟩
  case round=>
   obtain ⟨j,hj,rfl,hU,hC⟩:=hrel;have hBr:=HB.out.later hC.out;obtain ⟨-,-,-,-,-,-,-,-,e8,-⟩:=mcells hBr.m;by_cases hlt:j < m.so.length
   ·obtain ⟨x,hx⟩:∃ x,m.so[j]?=some x:=⟨_,gG hlt⟩;obtain ⟨b1,o1,hA1,hb1,hc⟩:=row_at (f:=soC) (C:=2) (fun _=>rfl) (by omega) (HG.out.so.later (Ct HC0.out hC.out) (fun _ h=>h.elim)) hx;have c0:=hc 0 _ rfl;have c1:=hc 1 _ rfl;rw[Nat.add_zero] at c0;rw[hA1] at e8;have hs:(m.so.take (j+1)).any (apX s e u)=apX s e u x:=by rw[take_get hx,any_snoc,hU.out,Bool.false_or]
    have hyes:=fun h=>any_get (f:=apX s e u) hx h
    clear hx hc;unfold apX at hs hyes;obtain ⟨xa,xb⟩:=x;dsimp only at c0 c1 hs hyes;replace hBr:=zI hBr;replace hA1:=zI hA1;rw[hA1.out];go_wp2_with fail
    go_quiet (fail)
    have HE:=zI (hC.out.drewN nq);have hB4:Boxes (wr.drewN nq) g k m s:=⟨hBr.out.m.drewN nq,hBr.out.s.drewN nq⟩;obtain ⟨f0,f1,f2,f3,f4⟩:=scells hB4.s;clear e8 c0 c1;have HD:=zI (fun (w':World) (h:Chg (fun _=>False) w2 w') (i:Int)=>had_any w' m s i u (HG.out.later (Ct HC0.out h)));unfold sA at HD;obtain ⟨w4,hw4⟩:∃ w4,w4=wr.drewN nq:=⟨_,rfl⟩;rw[<-hw4] at HE f0 f1 f2 f3 f4 hB4 |-;clear hw4;replace hB4:=zI hB4;obtain ⟨p,hp⟩:∃ p,p=hasB (atV s.did xb) u:=⟨_,rfl⟩;obtain ⟨p2,hp2⟩:∃ p2,p2=hasB (atV s.did xa) u:=⟨_,rfl⟩;rw[<-hp,<-hp2] at hs hyes;replace hp:=zI hp;replace hp2:=zI hp2;have fin:∀ v:Bool,(xa ==e && p || xb ==e && p2)=v->Hid (((m.so.take (j+1)).any (fun x=>(x.1 ==e && hasB (atV s.did x.2) u) || (x.2 ==e && hasB (atV s.did x.1) u))=v)/\(v=true->apB m s e u=true)):=fun v hv=>by
     refine zI ⟨hs.trans hv,fun h=>?_⟩;unfold apB apX;exact hyes (hv.trans h)
    clear hs hyes;obtain ⟨va,hva⟩:∃ va,va=(xa ==e):=⟨_,rfl⟩;obtain ⟨vb,hvb⟩:∃ vb,vb=(xb ==e):=⟨_,rfl⟩;rw[<-hva,<-hvb] at fin;replace hva:=hva.symm;replace hvb:=hvb.symm;cases va<;>cases vb<;>cases p<;>cases p2;all_goals
     have hF:=fin _ rfl;clear fin;simp only[Bool.false_and,Bool.true_and,Bool.or_false,Bool.or_true,Bool.or_self] at hF;go_wp2_with (go_at_call 100;refine (HD.out _ HE.out _).mono ?_;rintro e w' ⟨rfl,h⟩;(first | rw[<-hp.out] | rw[<-hp2.out]);have f0:=keep_cell h (fun _ h=>h) f0;have f1:=keep_cell h (fun _ h=>h) f1;have f2:=keep_cell h (fun _ h=>h) f2;have f3:=keep_cell h (fun _ h=>h) f3;have f4:=keep_cell h (fun _ h=>h) f4;have HE:=zI (Ct HE.out h);clear h)
     first
      | (go_roundw
         case rel=>exact ⟨j+1,by omega,by go_num,zI hF.out.1,HE⟩
         case measure=>(simp[intOf]<;>omega))
      | (go_ret;exact ⟨by rw[hF.out.2 (by trivial)];rfl,Ct HC0.out HE.out⟩)
   ·obtain rfl:j=m.so.length:=by omega
    rw[List.take_length] at hU;have hno:Hid (apB m s e u=false):=hU;clear hU hBr;go_wp2
    go_ret;exact ⟨by rw[hno.out];rfl,Ct HC0.out hC.out⟩
namespace Nm
structure Item where
 op:Int
 ln:ByteArray
 lnum:Int
 rn:ByteArray
 rnum:Int
 name:ByteArray
 user:ByteArray
 line:Int
 col:Int
end Nm
namespace Nm
structure Inst where
 op:Int
 la:Int
 lnum:Int
 ra:Int
 rnum:Int
 n:Int
 user:Int
end Nm
def itemA (x:Nm.Item):Array Value:=#[.int .i64 x.op,.string x.ln,.int .i64 x.lnum,.string x.rn,.int .i64 x.rnum,.string x.name,.string x.user,.int .i64 x.line,.int .i64 x.col]
def itemC (x:Nm.Item):List Value:=(itemA x).toList
def cellsI (f:List Nm.Item):List Value:=f.flatMap itemC
theorem itemC_len (x:Nm.Item):(itemC x).length=9:=rfl
theorem item_at {w:World} {B:Nat} {A:Option Addr} {f:List Nm.Item} (h:Rd w B A (cellsI f)) {i:Nat} {x:Nm.Item} (hi:f[i]?=some x):∃ b o,A=some ⟨b,o,none⟩/\b < B/\
  w.cell? ⟨b,o+i * 9,none⟩=some (.int .i64 x.op)/\w.cell? ⟨b,o+i * 9+1,none⟩=some (.string x.ln)/\w.cell? ⟨b,o+i * 9+2,none⟩=some (.int .i64 x.lnum)/\w.cell? ⟨b,o+i * 9+3,none⟩=some (.string x.rn)/\w.cell? ⟨b,o+i * 9+4,none⟩=some (.int .i64 x.rnum)/\
  w.cell? ⟨b,o+i * 9+5,none⟩=some (.string x.name)/\w.cell? ⟨b,o+i * 9+6,none⟩=some (.string x.user)/\w.cell? ⟨b,o+i * 9+7,none⟩=some (.int .i64 x.line)/\w.cell? ⟨b,o+i * 9+8,none⟩=some (.int .i64 x.col):=by
 obtain ⟨hil,rfl⟩:=List.getElem?_eq_some_iff.1 hi;have hlen:(cellsI f).length=f.length * 9:=flat_len itemC itemC_len f;obtain ⟨b,o,hA,hb,hc⟩:=h.plain (by rw[hlen];omega);have key:∀ r u,r < 9->(itemC f[i])[r]?=some u->w.cell? ⟨b,o+i * 9+r,none⟩=some u:=fun r u hr hu=>by
  have:=hc (i * 9+r) u (by rw[<-hu];exact flat_get itemC itemC_len f i r hil hr);rwa [<-Nat.add_assoc] at this
 exact ⟨b,o,hA,hb,key 0 _ (by omega) rfl,key 1 _ (by omega) rfl,key 2 _ (by omega) rfl,key 3 _ (by omega) rfl,key 4 _ (by omega) rfl,key 5 _ (by omega) rfl,key 6 _ (by omega) rfl,key 7 _ (by omega) rfl,key 8 _ (by omega) rfl⟩
theorem all_new {w:World} {g:Nat} {t:TypeId} {cs:Array Value} (h:Blk w g t cs):∀ j u,cs.toList[j]?=some u->w.cell? ((⟨g,0,none⟩:Addr).add j)=some u:=fun j u hu=>by
 rw[add_row,Nat.zero_add,h.cell];simpa using hu
theorem own_blk {w:World} {base size n:Nat} {e:TypeId} {v:Value} {xs:List Value} (h:w.ownsRow base e size v n xs) {g:Nat} (hg:v.ownBlock=some g):∃ cur,Blk w g e cur:=by
 rcases h.2 with ⟨rfl,_⟩ | ⟨g',cap,cur,rfl,_,hh,_⟩
 ·simp[Value.ownBlock] at hg
 ·simp only[Value.ownBlock,Option.some.injEq] at hg;subst hg;exact ⟨cur,hh⟩
theorem own_rdN {w:World} {base n c size:Nat} {e:TypeId} {A:Option Addr} {xs:List Value} (h:w.ownsRow base e size (.slice A n c) n xs):Rd w w.heap.size A xs:=fun hn=>by
 rcases h.2 with ⟨h1,h2⟩ | ⟨g,cap,cur,h1,_,hh,hnc,hcm,hcs,htk⟩
 ·have:=h.1;rw[h2,Nat.zero_mul] at this;omega
 ·injection h1 with hA _ _;refine ⟨_,hA,(Array.getElem?_eq_some_iff.1 hh).1,fun j u hu=>?_⟩;rw[add_row,Nat.zero_add];have hB:Blk w g e cur:=hh;rw[hB.cell];rw[<-htk,List.getElem?_take] at hu;split at hu
  ·simpa using hu
  ·cases hu
theorem blk_new2 (w:World) (o:Obj) (t:TypeId) (cs:Array Value):Blk ((w.alloc o).alloc (.cells cs t)) (w.heap.size+1) t cs:=by
 have h:=Blk.new (w.alloc o) t cs;rw[show (w.alloc o).heap.size=w.heap.size+1 from by simp] at h;exact h
def instV7 (x:Nm.Inst):List Value:=[.int .i64 x.op,.int .i64 x.la,.int .i64 x.lnum,.int .i64 x.ra,.int .i64 x.rnum,.int .i64 x.n,.int .i64 x.user]
theorem instV7_len (x:Nm.Inst):(instV7 x).length=7:=rfl
def toItem (x:Nm.Inst):Nm.Item:=⟨x.op,⟨#[]⟩,0,⟨#[]⟩,0,⟨#[]⟩,⟨#[]⟩,0,0⟩
theorem ins_at {w:World} {B:Nat} {A:Option Addr} {f:List Nm.Inst} (h:Rd w B A (f.flatMap instV7)) {i:Nat} {x:Nm.Inst} (hi:f[i]?=some x):
  ∃ b o,A=some ⟨b,o,none⟩/\b < B/\w.cell? ⟨b,o+i * 7,none⟩=some (.int .i64 x.op)/\w.cell? ⟨b,o+i * 7+1,none⟩=some (.int .i64 x.la)/\w.cell? ⟨b,o+i * 7+2,none⟩=some (.int .i64 x.lnum)/\w.cell? ⟨b,o+i * 7+3,none⟩=some (.int .i64 x.ra)/\w.cell? ⟨b,o+i * 7+4,none⟩=some (.int .i64 x.rnum)/\w.cell? ⟨b,o+i * 7+5,none⟩=some (.int .i64 x.n)/\w.cell? ⟨b,o+i * 7+6,none⟩=some (.int .i64 x.user):=by
 have hil:i < f.length:=(List.getElem?_eq_some_iff.1 hi).1;have he:f[i]=x:=(List.getElem?_eq_some_iff.1 hi).2;have hlen:(f.flatMap instV7).length=f.length * 7:=flat_len instV7 instV7_len f;obtain ⟨b,o,hA,hb,hc⟩:=h.plain (by rw[hlen];omega);have key:∀ (r:Nat) u,(instV7 x)[r]?=some u->w.cell? ⟨b,o+i * 7+r,none⟩=some u:=fun r u hr=>by
  have hr7:r < 7:=(List.getElem?_eq_some_iff.1 hr).1;rw[Nat.add_assoc];exact hc (i * 7+r) u (by rw[flat_get instV7 instV7_len f i r hil hr7,he];exact hr)
 exact ⟨b,o,hA,hb,key 0 _ rfl,key 1 _ rfl,key 2 _ rfl,key 3 _ rfl,key 4 _ rfl,key 5 _ rfl,key 6 _ rfl⟩
def itemsUp (f:List Nm.Inst) (j:Nat):List Nm.Item:=(f.take j).map toItem
theorem itemsUp_succ {f:List Nm.Inst} {j:Nat} {x:Nm.Inst} (h:f[j]?=some x):itemsUp f (j+1)=itemsUp f j++[toItem x]:=by
 obtain ⟨hjl,rfl⟩:=List.getElem?_eq_some_iff.1 h;unfold itemsUp;rw[List.take_succ_eq_append_getElem hjl,List.map_append];rfl
theorem cellsI_snoc (l:List Nm.Item) (x:Nm.Item):cellsI (l++[x])=cellsI l++itemC x:=by simp[cellsI]
theorem itemsUp_all (f:List Nm.Inst):itemsUp f f.length=f.map toItem:=by unfold itemsUp;rw[List.take_length]
theorem itemC_to (x:Nm.Inst):itemC (toItem x)=[.int .i64 x.op,.string ⟨#[]⟩,.int .i64 0,.string ⟨#[]⟩,.int .i64 0,.string ⟨#[]⟩,.string ⟨#[]⟩,.int .i64 0,.int .i64 0]:=rfl
theorem item70:(Tryz.prog.info? 110).map (fun i=>(i.zero,i.size,i.bytes))=some (some (.agg #[.int .i64 0,.string ⟨#[]⟩,.int .i64 0,.string ⟨#[]⟩,.int .i64 0,.string ⟨#[]⟩,.string ⟨#[]⟩,.int .i64 0,.int .i64 0]),9,104):=by kernel_rfl
structure Items (w0 wr:World) (f:List Nm.Inst) (j:Nat) (v:Value):Prop where
 own:wr.ownsRow w0.heap.size 110 9 v j (cellsI (itemsUp f j))
 chg:Chg (fun _=>False) w0 wr
theorem Items.start (w:World) (f:List Nm.Inst):Items w w f 0 (.slice none 0 0):=⟨World.ownsRow_nil _ _ _ _,Chg.refl _ _⟩
theorem Items.more {w0 wr wa w':World} {f:List Nm.Inst} {j g cap:Nat} {v:Value} {x:Nm.Inst} (h:Items w0 wr f j v) (hx:f[j]?=some x) (ha:Chg (fun _=>False) wr wa)
  (ho:w'.ownsRow w0.heap.size 110 9 (.slice (some ⟨g,0,none⟩) (j+1) cap) (j+1) (cellsI (itemsUp f j)++itemC (toItem x))) (hg:wa.grownBy w' v.ownBlock):Items w0 w' f (j+1) (.slice (some ⟨g,0,none⟩) (j+1) cap):=by
 refine ⟨by rw[itemsUp_succ hx,cellsI_snoc];exact ho,?_⟩;have c1:Chg (fun k=>v.ownBlock=some k) wr w':=Chg.grown (S:=fun k=>v.ownBlock=some k) (ha.mono (fun _ _ h=>h.elim)) hg (fun k hk=>.inl hk);exact Chg.trans h.chg c1 (fun i hi e=>by have:=(h.own.lt i e).1;omega)
def intsV (l:List Int):List Value:=l.map (Value.int .i64)
theorem intsV_append (a b:List Int):intsV (a++b)=intsV a++intsV b:=by simp[intsV]
def whoL (m:MC) (s:SC) (e:Int) (n:Nat):List Int:=((List.range n).filter (fun (u:Nat)=>enB m s e u)).map (fun (u:Nat)=>(u:Int))
theorem whoL_succ (m:MC) (s:SC) (e:Int) (n:Nat):whoL m s e (n+1)=whoL m s e n++(if enB m s e n=true then [(n:Int)] else []):=by
 unfold whoL;rw[List.range_succ,List.filter_append,List.map_append];cases h:enB m s e n<;>simp[h]
theorem whoL_le (m:MC) (s:SC) (e:Int) (n:Nat):(whoL m s e n).length<=n:=by
 unfold whoL;rw[List.length_map];exact Nat.le_trans (List.length_filter_le _ _) (by simp)
theorem int_info:(Tryz.prog.info? 3).map (fun i=>(i.zero,i.size,i.bytes))=some (some (.int .i64 0),1,8):=by kernel_rfl
def WhoR (w0:World) (l:List Int) (e:Ending) (w':World):Prop:=
 ∃ A c,e=.returned (.slice A l.length c)/\l.length<=maxLen/\Rd w' w'.heap.size A (intsV l)/\Chg (fun _=>False) w0 w'
theorem refWho_any (w:World) (m:MC) (s:SC) (e:Int) (hG:Good w m s) (hnU:m.nU<=1000):Calls Tryz.prog 56 #[.agg (mA m),.agg (sA s),.int .i64 e] w fun r w'=>WhoR w (whoL m s e m.nU) r w':=by
 have hb:=Boxes.new w m s;have hC0:=((Chg.refl (fun _=>False) w).alloc (.cells (mA m) 32)).alloc (.cells (sA s) 134);have HE:=zI (fun (w':World) (h:Chg (fun _=>False) w w') (u:Int)=>refEn_any w' m s e u (hG.later h));obtain ⟨i,hi,hzz⟩:=Option.map_eq_some_iff.1 int_info;simp only[Prod.mk.injEq] at hzz;obtain ⟨hz0,hz1,hz2⟩:=hzz;unfold mA sA at HE;unfold mA sA;go_enter Tryz.func56,Tryz.ntmps56;go_wp2_with fail
 obtain ⟨w1,hw1⟩:∃ w1,w1=(w.alloc (.cells (mA m) 32)).alloc (.cells (sA s) 134):=⟨_,rfl⟩;rw[<-hw1] at hb hC0;unfold mA sA at hw1;rw[<-hw1];clear hw1;obtain ⟨k,hk⟩:∃ k,k=w.heap.size+1:=⟨_,rfl⟩;obtain ⟨g,hg⟩:∃ g,g=w.heap.size:=⟨_,rfl⟩;rw[<-hk,<-hg] at hb |-;clear hk hg hG;have HB:=zI hb;have HC0:=zI hC0;clear hb hC0;go_loopw [8,7] (fun x v wr=>∃ j:Nat,j<=m.nU/\x=.int .i64 j/\Hid (wr.ownsRow w1.heap.size 3 1 v (whoL m s e j).length (intsV (whoL m s e j)))/\Hid (Chg (fun _=>False) w1 wr)) (fun x _ _=>m.nU - (intOf x).toNat)
 case atStart=>exact ⟨0,Nat.zero_le _,rfl,zI (World.ownsRow_nil _ _ _ _),Chg.refl _ _⟩
 case round=>
  obtain ⟨j,hj,rfl,hO,hC⟩:=hrel;have hBr:=HB.out.later hC.out;obtain ⟨e0,e1,e2,e3,e4,e5,e6,e7,e8,e9⟩:=mcells hBr.m;obtain ⟨f0,f1,f2,f3,f4⟩:=scells hBr.s;replace hBr:=zI hBr;by_cases hlt:j < m.nU
  ·have hs:=zI (whoL_succ m s e j);have hql:=zI (whoL_le m s e j);obtain ⟨q,hq⟩:∃ q,q=(whoL m s e j).length:=⟨_,rfl⟩;rw[<-hq] at hO hql;replace hq:=zI hq;have hq1000:q<=1000:=by have:=hql.out;omega
   obtain ⟨ev,hev⟩:∃ ev,ev=enB m s e j:=⟨_,rfl⟩;have HEJ:=zI (HE.out wr (Ct HC0.out hC.out) j);rw[<-hev] at HEJ hs;clear hev;cases ev with
   | false=>
    replace hs:=zI (show whoL m s e (j+1)=whoL m s e j by rw[hs.out];simp);go_wp2_with (go_at_call 87;refine HEJ.out.mono ?_;rintro r w' ⟨rfl,h⟩;have HC2:=zI (Ct hC.out h);have HO2:=zI (own_chg hO.out h (fun _ _ h=>h));clear h)
    go_roundw
    case rel=>exact ⟨j+1,by omega,by go_num,zI (by rw[hs.out,<-hq.out];exact HO2.out),HC2⟩
    case measure=>(simp[intOf]<;>omega)
   | true=>
    replace hs:=zI (show whoL m s e (j+1)=whoL m s e j++[(j:Int)] by rw[hs.out];simp);go_wp2_with (first | (go_at_call 87;refine HEJ.out.mono ?_;rintro r w' ⟨rfl,h⟩;have hsz:=zI (Nat.le_trans hC.out.size h.size);have HC2:=zI (Ct hC.out h);have HO2:=zI (own_chg hO.out h (fun _ _ h=>h));clear h) | (at_builtin;refine wpList_append_own _ rfl (.tmp 21) (.tmp 23) 52 rfl w1.heap.size 3 i _ 1 8 Tryz.underlying52 hi hz0 hz1 hz2 rfl (by omega) u7 q (intsV (whoL m s e j)) rfl (by exact HO2.out.alloc _) ⟨w'.heap.size,0,none⟩ 1 1 [.int .i64 j] rfl rfl (by exact all_new (Blk.new w' 3 #[.int .i64 j])) (by intro u hu;simp at hu;subst hu;rfl) (by unfold maxLen;omega) (by omega) (by have:=hsz.out;simp;omega) ?_;intro v' w3 hown3 hg3 hat3;have HO3:=zI hown3;have HC3:=zI (Chg.trans HC2.out (Chg.grown (S:=fun k=>Value.ownBlock u7=some k) ((Chg.refl _ w').alloc _) hg3 (fun k hk=>.inl hk)) (fun i hi e=>by have:=(HO2.out.lt i e).1;omega));clear hown3 hg3 hat3))
    go_roundw
    case rel=>exact ⟨j+1,by omega,by go_num,zI (by rw[hs.out,List.length_append,intsV_append,<-hq.out];exact HO3.out),HC3⟩
    case measure=>(simp[intOf]<;>omega)
  ·obtain rfl:j=m.nU:=by omega
   obtain ⟨A,c,rfl,hqc,hcm⟩:=own_slice hO.out;have hR:=zI (own_rd hO.out);have hl:=zI (Nat.le_trans hqc hcm);obtain ⟨q,hq⟩:∃ q,q=(whoL m s e m.nU).length:=⟨_,rfl⟩;rw[<-hq];replace hq:=zI hq;clear hqc hcm;go_wp2
   go_ret;exact ⟨A,c,by rw[<-hq.out];rfl,hl.out,hR.out,Ct HC0.out hC.out⟩
end
end Go.Proofs.YthohgagkjnbkbaaGreat
