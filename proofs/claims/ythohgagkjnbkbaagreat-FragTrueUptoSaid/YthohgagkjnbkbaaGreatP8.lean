/- FragTrue, part 8: FrChk FrHolds FrKnows. Each theorem says what a function does, or a plain fact, under its own premises alone. -/
import Derived.Test.YthohgagkjnbkbaaGreatP7
set_option maxRecDepth 100000
set_option maxHeartbeats 16000000
namespace Go.Proofs.YthohgagkjnbkbaaGreat
section
open Go.RowKit
def okX (n:Nat) (x:Nm.Inst):Bool:=!(decide (18 < x.op) || (decide (10 < x.op) && decide (x.op < 15))) && !((decide (3<=x.op) && decide (x.op<=8)) && (!thB n x.la || !thB n x.ra))
def ckB (l:List Nm.Inst) (n:Nat):Bool:=decide (Tr.check (sg (itemsUp l (min l.length 70))) (min l.length 70)=0) && l.all (okX n)
theorem check16_any (w:World) (A:Option Addr) (c:Nat) (l:List Nm.Inst) (s:SC) (hl:l.length<=100000) (hr:Rd w w.heap.size A (l.flatMap instV7)):Calls Tryz.prog 120 #[.slice A l.length c,.agg (sA s),.bool true] w fun e w'=>e=.returned (.bool (ckB l s.nV))/\Chg (fun _=>False) w w':=by
 have h1:=Blk.new w 134 (sA s);have C0:=zI ((Chg.refl (fun _=>False) w).alloc (.cells (sA s) 134));have HT:=zI (fun (w':World) (a n:Int)=>there_any w' s a n);have HI:=zI (refShape_any _ A c l (hr.later C0.out (fun _ h=>h.elim)));obtain ⟨w2,hw2⟩:∃ w2,w2=w.alloc (.cells (sA s) 134):=⟨_,rfl⟩;rw[<-hw2] at HI C0 h1;replace h1:=zI h1;have HR:=zI (hr.later C0.out (fun _ h=>h.elim));have hil:(itemsUp l (min l.length 70)).length=min l.length 70:=itemsUp_len _ _ (by omega);obtain ⟨q,hq⟩:∃ q,q=Tr.check (sg (itemsUp l (min l.length 70))) (min l.length 70):=⟨_,rfl⟩;have HQ:=zI (fun (w':World) (B:Option Addr) (d:Nat) (h:Rd w' w'.heap.size B (cellsI (itemsUp l (min l.length 70))))=>refCheck_any' w' B d (itemsUp l (min l.length 70)) (by rw[hil];unfold maxLen;omega) h);rw[hil,<-hq] at HQ;have hcq:Hid (ckB l s.nV=(decide (q=0) && l.all (okX s.nV))):=by show _=_;unfold ckB;rw[<-hq]
 unfold sA at HT hw2 |-;clear hr hq;unfold ItR at HI;rw[hil] at HI;rw[hcq.out];clear hil hcq;by_cases hq0:q=0
 ·have e0:(q ==0)=true:=by rw[beq_iff_eq];exact hq0
  have e1:(q !=0)=false:=by rw[bne_eq_false_iff_eq];exact hq0
  have hd:decide (q=0)=true:=by simpa using hq0
  rw[hd,Bool.true_and];clear hd;subst hq0;go_enter Tryz.func120,Tryz.ntmps120;go_wp2_with (first | (go_at_call 122;rw[<-hw2];refine HI.out.mono ?_;rintro e w3 ⟨B,d,rfl,hRB,hC3⟩;have C3:=zI (Ct C0.out hC3);have h3:=zI (h1.out.chg hC3 (fun h=>h));have HR3:=zI (HR.out.later hC3 (fun _ h=>h.elim));have HQ3:=zI (HQ.out w3 B d hRB);clear hRB hC3 HI HQ HR h1 hw2 C0) | (go_at_call 31;refine HQ3.out.mono ?_;rintro e w' ⟨rfl,rfl⟩;clear HQ3))
  go_loopw [7,8] (fun x _ wr=>∃ j:Nat,j<=l.length/\x=.int .i64 j/\Hid ((l.take j).all (okX s.nV)=true)/\Hid (Chg (fun _=>False) w3 wr)) (fun x _ _=>l.length - (intOf x).toNat)
  case atStart=>exact ⟨0,Nat.zero_le _,rfl,zI rfl,Chg.refl _ _⟩
  case round=>
   obtain ⟨j,hj,rfl,hU,hC⟩:=hrel;by_cases hlt:j < l.length
   ·obtain ⟨x,hx⟩:∃ x,l[j]?=some x:=⟨_,gG hlt⟩;obtain ⟨b0,o0,rfl,hb0,c0,c1,c2,c3,c4,-,-⟩:=ins_at (HR3.out.later hC.out (fun _ h=>h.elim)) hx;obtain ⟨f0,f1,f2,f3,f4⟩:=scells (h3.out.chg hC.out (fun h=>h));have hs:(l.take (j+1)).all (okX s.nV)=okX s.nV x:=by rw[List.take_succ_eq_append_getElem hlt,List.all_append,hU.out,Bool.true_and];obtain ⟨_,rfl⟩:=List.getElem?_eq_some_iff.1 hx;simp
    have hbad:okX s.nV x=false->l.all (okX s.nV)=false:=fun h=>by rw[List.all_eq_false];exact ⟨x,List.mem_of_getElem? hx,by rw[h];exact Bool.false_ne_true⟩
    have K0:=fun n:KW wr=>kept_cell c0 n
    have K1:=fun n:KW wr=>kept_cell c1 n
    have K2:=fun n:KW wr=>kept_cell c2 n
    have K3:=fun n:KW wr=>kept_cell c3 n
    have K4:=fun n:KW wr=>kept_cell c4 n
    have F0:=fun n:KW wr=>kept_cell f0 n
    have F1:=fun n:KW wr=>kept_cell f1 n
    have F2:=fun n:KW wr=>kept_cell f2 n
    have F3:=fun n:KW wr=>kept_cell f3 n
    have F4:=fun n:KW wr=>kept_cell f4 n
    have HL:=zI (fun n:KW wr=>kept_call (HT.out n.w x.la x.lnum));have HRR:=zI (fun n:KW wr=>kept_call (HT.out n.w x.ra x.rnum));unfold vA at HL HRR;clear hx hb0 hU f0 f1 f2 f3 f4 c1 c2 c3 c4;rw[show okX s.nV x=(!(decide (18 < x.op) || (decide (10 < x.op) && decide (x.op < 15))) && !((decide (3<=x.op) && decide (x.op<=8)) && (!thB s.nV x.la || !thB s.nV x.ra))) from rfl] at hs hbad;obtain ⟨ta,hta⟩:∃ ta,ta=thB s.nV x.la:=⟨_,rfl⟩;obtain ⟨tb,htb⟩:∃ tb,tb=thB s.nV x.ra:=⟨_,rfl⟩;rw[<-hta,<-htb] at hs hbad;rw[<-hta] at HL;rw[<-htb] at HRR;clear hta htb;obtain ⟨op,hop⟩:∃ op,op=x.op:=⟨_,rfl⟩;rw[<-hop] at hs hbad c0 K0;clear hop;have hcs:(18 < op)\/(10 < op/\op < 15)\/(15<=op/\op<=18)\/(op < 3)\/(9<=op/\op<=10)\/(3<=op/\op<=8):=by omega
    rcases hcs with hcs0 | hcs0 | hcs0 | hcs0 | hcs0 | hcs0
    ·have d18:decide (18 < op)=true:=by rw[dT];omega
     have hb:=zI (hbad (by simp only[d18];rfl));clear hs hbad hcs0;go_wp2_with fail
     refine wp_region_kept wr (Chg.refl _ _) (by kernel_rfl) (by kernel_rfl) ?_;clear c0;repeat (go_big_quiet_step (first | with_reducible exact HL.out _ | with_reducible exact HRR.out _))
     refine wpQuiet_nil ?_;rintro w4 ⟨n,rfl⟩;have C4:=zI (Ct hC.out n.h);obtain ⟨w5,hw5⟩:∃ w5,w5=n.w:=⟨_,rfl⟩;rw[<-hw5] at C4 |-;clear hw5 K0 K1 K2 K3 K4 F0 F1 F2 F3 F4 HL HRR;go_wp2
     go_ret;exact ⟨by rw[hb.out];rfl,Ct C3.out C4.out⟩
    ·have d18:decide (18 < op)=false:=by rw[dF];omega
     have d10:decide (10 < op)=true:=by rw[dT];omega
     have d15:decide (op < 15)=true:=by rw[dT];omega
     have hb:=zI (hbad (by simp only[d18,d10,d15];rfl));clear hs hbad hcs0;go_wp2_with fail
     refine wp_region_kept wr (Chg.refl _ _) (by kernel_rfl) (by kernel_rfl) ?_;clear c0;repeat (go_big_quiet_step (first | with_reducible exact HL.out _ | with_reducible exact HRR.out _))
     refine wpQuiet_nil ?_;rintro w4 ⟨n,rfl⟩;have C4:=zI (Ct hC.out n.h);obtain ⟨w5,hw5⟩:∃ w5,w5=n.w:=⟨_,rfl⟩;rw[<-hw5] at C4 |-;clear hw5 K0 K1 K2 K3 K4 F0 F1 F2 F3 F4 HL HRR;go_wp2
     go_ret;exact ⟨by rw[hb.out];rfl,Ct C3.out C4.out⟩
    ·have d18:decide (18 < op)=false:=by rw[dF];omega
     have d10:decide (10 < op)=true:=by rw[dT];omega
     have d15:decide (op < 15)=false:=by rw[dF];omega
     have d3:decide (3<=op)=true:=by rw[dT];omega
     have d8:decide (op<=8)=false:=by rw[dF];omega
     replace hs:=zI (hs.trans (by simp only[d18,d10,d15,d3,d8];rfl));clear hbad hcs0;go_wp2_with fail
     refine wp_region_kept wr (Chg.refl _ _) (by kernel_rfl) (by kernel_rfl) ?_;clear c0;repeat (go_big_quiet_step (first | with_reducible exact HL.out _ | with_reducible exact HRR.out _))
     refine wpQuiet_nil ?_;rintro w4 ⟨n,rfl⟩;have C4:=zI (Ct hC.out n.h);obtain ⟨w5,hw5⟩:∃ w5,w5=n.w:=⟨_,rfl⟩;rw[<-hw5] at C4 |-;clear hw5 K0 K1 K2 K3 K4 F0 F1 F2 F3 F4 HL HRR;go_wp2_with fail
     go_roundw
     case rel=>exact ⟨j+1,by omega,by go_num,zI (hs.out),C4⟩
     case measure=>(simp[intOf]<;>omega)
    ·have d18:decide (18 < op)=false:=by rw[dF];omega
     have d10:decide (10 < op)=false:=by rw[dF];omega
     have d3:decide (3<=op)=false:=by rw[dF];omega
     replace hs:=zI (hs.trans (by simp only[d18,d10,d3];rfl));clear hbad hcs0;go_wp2_with fail
     refine wp_region_kept wr (Chg.refl _ _) (by kernel_rfl) (by kernel_rfl) ?_;clear c0;repeat (go_big_quiet_step (first | with_reducible exact HL.out _ | with_reducible exact HRR.out _))
     refine wpQuiet_nil ?_;rintro w4 ⟨n,rfl⟩;have C4:=zI (Ct hC.out n.h);obtain ⟨w5,hw5⟩:∃ w5,w5=n.w:=⟨_,rfl⟩;rw[<-hw5] at C4 |-;clear hw5 K0 K1 K2 K3 K4 F0 F1 F2 F3 F4 HL HRR;go_wp2_with fail
     go_roundw
     case rel=>exact ⟨j+1,by omega,by go_num,zI (hs.out),C4⟩
     case measure=>(simp[intOf]<;>omega)
    ·have d18:decide (18 < op)=false:=by rw[dF];omega
     have d10:decide (10 < op)=false:=by rw[dF];omega
     have d3:decide (3<=op)=true:=by rw[dT];omega
     have d8:decide (op<=8)=false:=by rw[dF];omega
     replace hs:=zI (hs.trans (by simp only[d18,d10,d3,d8];rfl));clear hbad hcs0;go_wp2_with fail
     refine wp_region_kept wr (Chg.refl _ _) (by kernel_rfl) (by kernel_rfl) ?_;clear c0;repeat (go_big_quiet_step (first | with_reducible exact HL.out _ | with_reducible exact HRR.out _))
     refine wpQuiet_nil ?_;rintro w4 ⟨n,rfl⟩;have C4:=zI (Ct hC.out n.h);obtain ⟨w5,hw5⟩:∃ w5,w5=n.w:=⟨_,rfl⟩;rw[<-hw5] at C4 |-;clear hw5 K0 K1 K2 K3 K4 F0 F1 F2 F3 F4 HL HRR;go_wp2_with fail
     go_roundw
     case rel=>exact ⟨j+1,by omega,by go_num,zI (hs.out),C4⟩
     case measure=>(simp[intOf]<;>omega)
    ·cases ta with
     | false=>
      have d18:decide (18 < op)=false:=by rw[dF];omega
      have d10:decide (10 < op)=false:=by rw[dF];omega
      have d3:decide (3<=op)=true:=by rw[dT];omega
      have d8:decide (op<=8)=true:=by rw[dT];omega
      have hb:=zI (hbad (by simp only[d18,d10,d3,d8];rfl));clear hs hbad hcs0;go_wp2_with fail
      refine wp_region_kept wr (Chg.refl _ _) (by kernel_rfl) (by kernel_rfl) ?_;clear c0;repeat (go_big_quiet_step (first | with_reducible exact HL.out _ | with_reducible exact HRR.out _))
      refine wpQuiet_nil ?_;rintro w4 ⟨n,rfl⟩;have C4:=zI (Ct hC.out n.h);obtain ⟨w5,hw5⟩:∃ w5,w5=n.w:=⟨_,rfl⟩;rw[<-hw5] at C4 |-;clear hw5 K0 K1 K2 K3 K4 F0 F1 F2 F3 F4 HL HRR;go_wp2
      go_ret;exact ⟨by rw[hb.out];rfl,Ct C3.out C4.out⟩
     | true=>
      cases tb with
      | false=>
       have d18:decide (18 < op)=false:=by rw[dF];omega
       have d10:decide (10 < op)=false:=by rw[dF];omega
       have d3:decide (3<=op)=true:=by rw[dT];omega
       have d8:decide (op<=8)=true:=by rw[dT];omega
       have hb:=zI (hbad (by simp only[d18,d10,d3,d8];rfl));clear hs hbad hcs0;go_wp2_with fail
       refine wp_region_kept wr (Chg.refl _ _) (by kernel_rfl) (by kernel_rfl) ?_;clear c0;repeat (go_big_quiet_step (first | with_reducible exact HL.out _ | with_reducible exact HRR.out _))
       refine wpQuiet_nil ?_;rintro w4 ⟨n,rfl⟩;have C4:=zI (Ct hC.out n.h);obtain ⟨w5,hw5⟩:∃ w5,w5=n.w:=⟨_,rfl⟩;rw[<-hw5] at C4 |-;clear hw5 K0 K1 K2 K3 K4 F0 F1 F2 F3 F4 HL HRR;go_wp2
       go_ret;exact ⟨by rw[hb.out];rfl,Ct C3.out C4.out⟩
      | true=>
       have d18:decide (18 < op)=false:=by rw[dF];omega
       have d10:decide (10 < op)=false:=by rw[dF];omega
       have d3:decide (3<=op)=true:=by rw[dT];omega
       have d8:decide (op<=8)=true:=by rw[dT];omega
       replace hs:=zI (hs.trans (by simp only[d18,d10,d3,d8];rfl));clear hbad hcs0;go_wp2_with fail
       refine wp_region_kept wr (Chg.refl _ _) (by kernel_rfl) (by kernel_rfl) ?_;clear c0;repeat (go_big_quiet_step (first | with_reducible exact HL.out _ | with_reducible exact HRR.out _))
       refine wpQuiet_nil ?_;rintro w4 ⟨n,rfl⟩;have C4:=zI (Ct hC.out n.h);obtain ⟨w5,hw5⟩:∃ w5,w5=n.w:=⟨_,rfl⟩;rw[<-hw5] at C4 |-;clear hw5 K0 K1 K2 K3 K4 F0 F1 F2 F3 F4 HL HRR;go_wp2_with fail
       go_roundw
       case rel=>exact ⟨j+1,by omega,by go_num,zI (hs.out),C4⟩
       case measure=>(simp[intOf]<;>omega)
   ·obtain rfl:j=l.length:=by omega
    have hv:Hid (l.all (okX s.nV)=true):=by show _=_;rw[<-hU.out,List.take_length]
    clear hU;go_wp2
    go_ret;exact ⟨by rw[hv.out];rfl,Ct C3.out hC.out⟩
 ·have e0:(q ==0)=false:=by rw[bF];exact hq0
  have e1:(q !=0)=true:=by rw[bne_iff_ne];exact hq0
  have hd:decide (q=0)=false:=by simpa using hq0
  rw[hd,Bool.false_and];clear hd hq0;go_enter Tryz.func120,Tryz.ntmps120;go_wp2_with (first | (go_at_call 122;rw[<-hw2];refine HI.out.mono ?_;rintro e w3 ⟨B,d,rfl,hRB,hC3⟩;have C3:=zI (Ct C0.out hC3);have HQ3:=zI (HQ.out w3 B d hRB);clear hRB hC3 HI HQ HR h1 hw2 C0) | (go_at_call 31;refine HQ3.out.mono ?_;rintro e w' ⟨rfl,rfl⟩;clear HQ3))
  go_ret;exact ⟨rfl,C3.out⟩
def evT (l:List Nm.Inst) (s:SC) (vs:List Int):Tr.T->Bool
 | .leaf a=>match l[a]? with
  | some x=>lfB s vs x
  | none=>false
 | .one _ x=>!evT l s vs x
 | .two a x y=>if sg (shp l) a=16 then evT l s vs x && evT l s vs y else if sg (shp l) a=17 then evT l s vs x || evT l s vs y else !evT l s vs x || evT l s vs y
theorem one_ops' {op:Int} (h:Tr.arity op=1):op=15\/19<=op:=by
 unfold Tr.arity at h;split at h
 ·cases h
 ·split at h
  ·omega
  ·split at h<;>cases h
theorem two_ops' {op:Int} (h:Tr.arity op=2):(16<=op/\op<=18)\/25<=op:=by
 unfold Tr.arity at h;split at h
 ·cases h
 ·split at h
  ·cases h
  ·split at h
   ·omega
   ·cases h
theorem okX_op {n:Nat} {x:Nm.Inst} (h:okX n x=true):x.op<=18/\¬ (10 < x.op/\x.op < 15)/\(3<=x.op->x.op<=8->thB n x.la=true/\thB n x.ra=true):=by
 simp only[okX,Bool.and_eq_true,Bool.not_eq_true',Bool.or_eq_false_iff,Bool.and_eq_false_iff,dF] at h;obtain ⟨⟨h1,h2⟩,h3⟩:=h;refine ⟨by omega,by omega,fun a b=>?_⟩;rcases h3 with (h3 | h3) | h3
 ·omega
 ·omega
 ·simpa using h3
theorem at16_any (l:List Nm.Inst) (s:SC) (vs:List Int) (hl:l.length<=64) (hok:l.all (okX s.nV)=true) (A B:Option Addr) (c d:Nat):∀ (t:Tr.T) (lo k:Nat),Tr.WF (sg (shp l)) t lo (k+1)->k < l.length->∀ w:World,Rd w w.heap.size A (l.flatMap instV7)->Rd w w.heap.size B (cellsI (shp l))->SOK w s->VOK w s vs->
  Calls Tryz.prog 121 #[.slice A l.length c,.slice B l.length d,.int .i64 k,.agg (sA s)] w fun e w'=>e=.returned (.bool (evT l s vs t))/\Chg (fun _=>False) w w'
 | .leaf a,lo,k,h,hk,w,hr,hi,hS,hV=>by
  have hkids:=h.kids;simp only[Tr.WF] at h;obtain rfl:a=k:=by omega
  obtain ⟨x,hx⟩:∃ x,l[a]?=some x:=⟨_,gG hk⟩;have ho:=okX_op (List.all_eq_true.1 hok x (List.mem_of_getElem? hx));have hop:=shp_sg hx;have har:Tr.arity x.op=0:=by rw[<-hop];exact h.2.2
  have hr1:1<=x.op/\x.op<=14:=by
   unfold Tr.arity at har;split at har
   ·assumption
   ·split at har
    ·cases har
    ·split at har<;>cases har
  have hkid:Tr.kidsB (sg (shp l)) a=[]:=hkids;have hv:evT l s vs (.leaf a)=lfB s vs x:=by simp[evT,hx]
  rw[hv];have hcs:x.op=1\/x.op=2\/x.op=9\/x.op=10\/(3<=x.op/\x.op<=8):=by omega
  rcases hcs with e | e | e | e | e
  ·rw[show lfB s vs x=true by simp[lfB,e]];exact ev_1 w A B c d l s a x hl hx hr hi hS e hkid
  ·rw[show lfB s vs x=false by simp[lfB,e]];exact ev_2 w A B c d l s a x hl hx hr hi hS e hkid
  ·rw[show lfB s vs x=hasB s.op x.n by simp[lfB,e]];exact ev_9 w A B c d l s a x hl hx hr hi hS e hkid
  ·rw[show lfB s vs x=hasB s.dn x.n by simp[lfB,e]];exact ev_10 w A B c d l s a x hl hx hr hi hS e hkid
  ·rw[show lfB s vs x=cmpB x.op (valV vs x.la x.lnum) (valV vs x.ra x.rnum) by unfold lfB;rw[if_neg (by omega),if_neg (by omega),if_neg (by omega),if_pos e]];exact ev_cmp w A B c d l s vs a x hl hx hr hi hS hV e (ho.2.2 e.1 e.2).1 (ho.2.2 e.1 e.2).2 hkid
 | .one a x,lo,k,h,hk,w,hr,hi,hS,hV=>by
  have hkids:=h.kids;simp only[Tr.T.kids,List.map_cons,List.map_nil] at hkids;simp only[Tr.WF] at h;obtain ⟨h1,h2,h3⟩:=h;obtain rfl:k=a:=by omega
  have hlt:=h3.lt;have hend:=h3.end_;obtain ⟨i,hi'⟩:∃ i,l[k]?=some i:=⟨_,gG hk⟩;have ho:=okX_op (List.all_eq_true.1 hok i (List.mem_of_getElem? hi'));have hop:=shp_sg hi';have e15:i.op=15:=by
   rw[hop] at h2;rcases one_ops' h2 with e | e
   ·exact e
   ·omega
  exact ev_15 w A B c d l s k i hl hi' hr hi hS e15 (evT l s vs x) x.endOf (by omega) hkids (fun w' hc=>at16_any l s vs hl hok A B c d x lo x.endOf (by rw[hend];exact h3) (by omega) w' (hr.later hc (fun _ h=>h.elim)) (hi.later hc (fun _ h=>h.elim)) (hS.later hc) (hV.later hc))
 | .two a x y,lo,k,h,hk,w,hr,hi,hS,hV=>by
  have hkids:=h.kids;simp only[Tr.T.kids,List.map_cons,List.map_nil] at hkids;simp only[Tr.WF] at h;obtain ⟨h1,h2,m,h3,h4⟩:=h;obtain rfl:k=a:=by omega
  have hlt:=h3.lt;have hend:=h3.end_;have hlt2:=h4.lt;have hend2:=h4.end_;obtain ⟨i,hi'⟩:∃ i,l[k]?=some i:=⟨_,gG hk⟩;have ho:=okX_op (List.all_eq_true.1 hok i (List.mem_of_getElem? hi'));have hop:=shp_sg hi';have e16:i.op=16\/i.op=17\/i.op=18:=by
   rw[hop] at h2;have:=two_ops' h2;omega
  have HX:=fun (w':World) (hc:Chg (fun _=>False) w w')=>at16_any l s vs hl hok A B c d x lo x.endOf (by rw[hend];exact h3) (by omega) w' (hr.later hc (fun _ h=>h.elim)) (hi.later hc (fun _ h=>h.elim)) (hS.later hc) (hV.later hc)
  have HY:=fun (w':World) (hc:Chg (fun _=>False) w w')=>at16_any l s vs hl hok A B c d y m y.endOf (by rw[hend2];exact h4) (by omega) w' (hr.later hc (fun _ h=>h.elim)) (hi.later hc (fun _ h=>h.elim)) (hS.later hc) (hV.later hc)
  rcases e16 with e | e | e
  ·have hv:evT l s vs (.two k x y)=(evT l s vs x && evT l s vs y):=by simp[evT,hop,e]
   rw[hv];exact ev_16 w A B c d l s k i hl hi' hr hi hS e _ _ x.endOf y.endOf (by omega) hkids HX HY
  ·have hv:evT l s vs (.two k x y)=(evT l s vs x || evT l s vs y):=by simp[evT,hop,e]
   rw[hv];exact ev_17 w A B c d l s k i hl hi' hr hi hS e _ _ x.endOf y.endOf (by omega) hkids HX HY
  ·have hv:evT l s vs (.two k x y)=(!evT l s vs x || evT l s vs y):=by simp[evT,hop,e]
   rw[hv];exact ev_18 w A B c d l s k i hl hi' hr hi hS e _ _ x.endOf y.endOf (by omega) hkids HX HY
def hdB (l:List Nm.Inst) (s:SC) (vs:List Int):Bool:=ckB l s.nV && match Tr.run (sg (shp l)) l.length with
 | some [t]=>evT l s vs t
 | _=>false
def hdE (l:List Nm.Inst) (s:SC):Int:=if ckB l s.nV=true then 0 else 17
theorem ckB_true {l:List Nm.Inst} {n:Nat} (h:ckB l n=true):0 < l.length/\l.length<=64/\(∃ t,Tr.run (sg (shp l)) l.length=some [t]/\Tr.WF (sg (shp l)) t 0 l.length)/\l.all (okX n)=true:=by
 simp only[ckB,Bool.and_eq_true,decide_eq_true_eq] at h;obtain ⟨h1,h2⟩:=h;obtain ⟨h3,h4,h5⟩:=Tr.check_zero.1 h1;have hm:min l.length 70=l.length:=by omega
 rw[hm] at h5 h3 h4;have e:itemsUp l l.length=shp l:=itemsUp_all l;rw[e] at h5;obtain ⟨t,ht⟩:=(Tr.form_iff l.length).1 h5;exact ⟨h3,h4,⟨t,ht,Tr.form_wf ht⟩,h2⟩
theorem holds16_any (w:World) (A:Option Addr) (c:Nat) (l:List Nm.Inst) (s:SC) (vs:List Int) (hl:l.length<=100000) (hr:Rd w w.heap.size A (l.flatMap instV7)) (hS:SOK w s) (hV:VOK w s vs):Calls Tryz.prog 98 #[.slice A l.length c,.agg (sA s)] w fun e w'=>e=.returned (.tuple #[.bool (hdB l s vs),.int .i64 (hdE l s)])/\Chg (fun _=>False) w w':=by
 have h1:=Blk.new w 134 (sA s);have C0:=zI ((Chg.refl (fun _=>False) w).alloc (.cells (sA s) 134));have HK:=zI (check16_any _ A c l s hl (hr.later C0.out (fun _ h=>h.elim)));obtain ⟨w2,hw2⟩:∃ w2,w2=w.alloc (.cells (sA s) 134):=⟨_,rfl⟩;rw[<-hw2] at HK C0 h1;replace h1:=zI h1;have HR:=zI (fun (w':World) (h:Chg (fun _=>False) w2 w')=>(hr.later C0.out (fun _ h=>h.elim)).later h (fun _ h=>h.elim));have HSV:=zI (fun (w':World) (h:Chg (fun _=>False) w2 w')=>(⟨(hS.later C0.out).later h,(hV.later C0.out).later h⟩:SOK w' s/\VOK w' s vs));cases hck:ckB l s.nV with
 | false=>
  have hv:Hid (hdB l s vs=false):=by show _=_;unfold hdB;rw[hck];rfl
  have he:Hid (hdE l s=17):=by show _=_;unfold hdE;rw[hck];rfl
  rw[hck] at HK;unfold sA at HK hw2 |-;clear hr hS hV hck h1 HR HSV;obtain ⟨f0,f1,f2,f3,f4⟩:=scells (g:=w.heap.size) (s:=s) (w:=w2) (by rw[hw2];exact Blk.new w 134 (sA s));rw[hw2] at f0 f1 f2 f3 f4;go_enter Tryz.func98,Tryz.ntmps98;go_wp2_with (go_at_call 120;rw[<-hw2];refine HK.out.mono ?_;rintro e w3 ⟨rfl,hC3⟩;have C3:=zI (Ct C0.out hC3);clear hC3 HK f0 f1 f2 f3 f4)
  go_ret2
  exact ⟨by rw[hv.out,he.out];rfl,C3.out⟩
 | true=>
  obtain ⟨h0,h64,⟨t,ht,hwf⟩,hok⟩:=ckB_true hck;obtain ⟨k,hk⟩:∃ k,l.length=k+1:=⟨l.length - 1,by omega⟩;obtain ⟨b,hb⟩:∃ b,b=evT l s vs t:=⟨_,rfl⟩;have hv:Hid (hdB l s vs=b):=by show _=_;unfold hdB;rw[hck,ht,hb];rfl
  have he:Hid (hdE l s=0):=by show _=_;unfold hdE;rw[hck];rfl
  have HA:=zI (fun (w':World) (h:Chg (fun _=>False) w2 w') (B:Option Addr) (d:Nat) (hB:Rd w' w'.heap.size B (cellsI (shp l)))=>at16_any l s vs h64 hok A B c d t 0 k (by rw[<-hk];exact hwf) (by omega) w' (HR.out w' h) hB (HSV.out w' h).1 (HSV.out w' h).2);rw[<-hb] at HA;have HI:=zI (fun (w':World) (h:Chg (fun _=>False) w2 w')=>refShape_any w' A c l (HR.out w' h));have hm:min l.length 70=l.length:=by omega
  unfold ItR at HI;rw[hm,show itemsUp l l.length=shp l from itemsUp_all l,shp_len] at HI;rw[hck] at HK;have hw15:IntKind.i64.wrap ((l.length:Int) - 1)=k:=by rw[IntKind.wrap_i64];omega
  rw[hv.out,he.out];clear hr hS hV hck hwf ht hok hb hm hv he HSV h0 h64 hk;replace hw15:=zI hw15;obtain ⟨f0,f1,f2,f3,f4⟩:=scells (g:=w.heap.size) (s:=s) (w:=w2) (by rw[hw2];exact Blk.new w 134 (sA s));rw[hw2] at f0 f1 f2 f3 f4;unfold sA at HK hw2 HA f0 f1 f2 f3 f4 |-;go_enter Tryz.func98,Tryz.ntmps98;go_wp2_with (go_at_call 120;rw[<-hw2];refine HK.out.mono ?_;rintro e w3 ⟨rfl,hC3⟩;have C3:=zI hC3;have h3:=zI (h1.out.chg hC3 (fun h=>h));clear hC3 HK f0 f1 f2 f3 f4 hw2)
  have HF:=zI (fun (w':World) (h:Chg (fun _=>False) w3 w')=>scells (h3.out.chg h (fun h=>h)));refine region_sp (by kernel_rfl) [some 10,some 11,some 12,some 13,some 14,some 15,some 16,some 17,some 4,some 5] [10,11,12,13,14,15,16,17,4,5] [.is (.slice A l.length c),.is (.slice A l.length c),.su (fun v w'=>∃ B d,v=.slice B l.length d/\Rd w' w'.heap.size B (cellsI (shp l))),.is (.slice A l.length c),.is (.int .i64 l.length),.is (.int .i64 k),.is (.agg #[.slice s.aV s.nV s.cV,.int .i64 s.op,.int .i64 s.dn,.slice s.aD s.did.length s.cD,.slice s.aC s.cnt.length s.cC]),.is (.bool b),.is (.bool b),.is (.int .i64 0)] (fun _=>False) (by kernel_rfl) (by kernel_rfl) ?_ ?_
  ·refine ⟨?_,?_,?_,?_,?_,?_,?_,?_,?_,?_,trivial⟩
   ·intro f a wz _ hout _ _;have x0:(a.tmps[0]?).getD undef=.slice A l.length c:=hout 0 (by rfl);exact st_is rfl rfl (by simp[execOp,go_sem,x0]) rfl (by simp)
   ·intro f a wz _ hout _ _;have x0:(a.tmps[0]?).getD undef=.slice A l.length c:=hout 0 (by rfl);exact st_is rfl rfl (by simp[execOp,go_sem,x0]) rfl (by simp)
   ·intro f a wz hin _ hC hd;have x11:(a.tmps[11]?).getD undef=.slice A l.length c:=(hin 11 (by rfl)).trans (hd 1 (by kernel_rfl));refine st_call (f:=122) (args:=#[.slice A l.length c]) rfl rfl (by simp[go_sem,x11]) rfl (by simp) ((HI.out wz (Ct C3.out hC)).mono ?_);rintro e w5 ⟨B,d,rfl,hB,hc⟩;exact ⟨_,rfl,⟨B,d,rfl,hB⟩,hc⟩
   ·intro f a wz _ hout _ _;have x0:(a.tmps[0]?).getD undef=.slice A l.length c:=hout 0 (by rfl);exact st_is rfl rfl (by simp[execOp,go_sem,x0]) rfl (by simp)
   ·intro f a wz hin _ _ hd;have x13:(a.tmps[13]?).getD undef=.slice A l.length c:=(hin 13 (by rfl)).trans (hd 3 (by kernel_rfl));exact st_is rfl rfl (by simp[go_sem,Result.andThen,x13]) rfl (by simp)
   ·intro f a wz hin _ _ hd;have x14:(a.tmps[14]?).getD undef=.int .i64 l.length:=(hin 14 (by rfl)).trans (hd 4 (by kernel_rfl));exact st_is rfl rfl (by simp[execOp,go_sem,x14,hw15.out]) rfl (by simp)
   ·intro f a wz _ hout hC _;have x3:(a.tmps[3]?).getD undef=.pointer (some ⟨w.heap.size,0,none⟩):=hout 3 (by rfl);exact st_is rfl rfl (by simp[execOp,go_sem,Result.andThen,x3,(HF.out wz hC).1,(HF.out wz hC).2.1,(HF.out wz hC).2.2.1,(HF.out wz hC).2.2.2.1,(HF.out wz hC).2.2.2.2]) rfl (by simp)
   ·intro f a wz hin _ hC hd;have x10:(a.tmps[10]?).getD undef=.slice A l.length c:=(hin 10 (by rfl)).trans (hd 0 (by kernel_rfl));obtain ⟨v12w,v12c,v12p⟩:=hd 2 (by kernel_rfl);have x12:=hin 12 (by rfl);have x15:(a.tmps[15]?).getD undef=.int .i64 k:=(hin 15 (by rfl)).trans (hd 5 (by kernel_rfl));have x16:(a.tmps[16]?).getD undef=.agg #[.slice s.aV s.nV s.cV,.int .i64 s.op,.int .i64 s.dn,.slice s.aD s.did.length s.cD,.slice s.aC s.cnt.length s.cC]:=(hin 16 (by rfl)).trans (hd 6 (by kernel_rfl));obtain ⟨B,d,v12e,hB⟩:=v12p;replace x12:=x12.trans v12e;exact st_calli (f:=121) (args:=#[.slice A l.length c,.slice B l.length d,.int .i64 k,.agg #[.slice s.aV s.nV s.cV,.int .i64 s.op,.int .i64 s.dn,.slice s.aD s.did.length s.cD,.slice s.aC s.cnt.length s.cC]]) rfl rfl (by simp[go_sem,x10,x12,x15,x16]) rfl (by simp) (HA.out wz (Ct C3.out hC) B d (hB.later v12c (fun _ h=>h.elim)))
   ·intro f a wz hin _ _ hd;have x17:(a.tmps[17]?).getD undef=.bool b:=(hin 17 (by rfl)).trans (hd 7 (by kernel_rfl));exact st_is rfl rfl (by simp[execOp,go_sem,x17]) rfl (by simp)
   ·intro f a wz _ _ _ _;exact st_is rfl rfl (by simp[execOp,go_sem]) rfl (by simp)
  ·intro f wz hC hd;have q4:f 4=.bool b:=hd 8 (show 8 < 10 by omega);have q5:f 5=.int .i64 0:=hd 9 (show 9 < 10 by omega);have C4:=zI (Ct (Ct C0.out C3.out) hC);clear hd hC HF HA HI h3 C3 C0 HR h1;simp only[putAll,List.setIfInBounds_toArray,List.set_cons_succ,List.set_cons_zero,q4,q5];clear q4 q5;go_wp2
   go_ret2
   exact ⟨rfl,C4.out⟩
def knX (cs:List Int) (z:ZC) (x:Nm.Inst):Bool:=!((decide (3<=x.op) && decide (x.op<=8)) && (decide (plI cs x.la x.lnum z.cl < 0) || decide (plI cs x.ra x.rnum z.cl < 0)))
def knB (l:List Nm.Inst) (cs:List Int) (z:ZC):Bool:=l.all (knX cs z)
theorem knows_any (w:World) (A:Option Addr) (c:Nat) (l:List Nm.Inst) (z:ZC) (D:Option Addr) (d:Nat) (q:List Int) (hl:l.length<=100000) (hr:Rd w w.heap.size A (l.flatMap instV7)) (hz:ZOK w z) (hQ:Rd w w.heap.size D (intsV q)) (hq:q.length<=100000):Calls Tryz.prog 96 #[.slice A l.length c,.agg (zA z),.slice D q.length d] w fun e w'=>e=.returned (.bool (knB l (srt q) z))/\Chg (fun _=>False) w w':=by
 have h1:=Blk.new w 88 (zA z);have C0:=zI ((Chg.refl (fun _=>False) w).alloc (.cells (zA z) 88));have HT:=zI (fun (w':World) (h:Chg (fun _=>False) w w') (a n:Int)=>place_any w' z D d q a n (hz.later h) (hQ.later h (fun _ h=>h.elim)) hq);obtain ⟨cs,hcs⟩:∃ cs,cs=srt q:=⟨_,rfl⟩;rw[<-hcs] at HT |-;obtain ⟨w2,hw2⟩:∃ w2,w2=w.alloc (.cells (zA z) 88):=⟨_,rfl⟩;rw[<-hw2] at C0 h1;replace h1:=zI h1;have HR:=zI (hr.later C0.out (fun _ h=>h.elim));unfold knB;unfold zA at HT hw2 |-;clear hr hcs hz hQ;go_enter Tryz.func96,Tryz.ntmps96;go_wp2_with fail
 rw[<-hw2];clear hw2;go_loopw [7] (fun x wr=>∃ j:Nat,j<=l.length/\x=.int .i64 j/\Hid ((l.take j).all (knX cs z)=true)/\Hid (Chg (fun _=>False) w2 wr)) (fun x _=>l.length - (intOf x).toNat)
 case atStart=>exact ⟨0,Nat.zero_le _,rfl,zI rfl,Chg.refl _ _⟩
 case round=>
  obtain ⟨j,hj,rfl,hU,hC⟩:=hrel;by_cases hlt:j < l.length
  ·obtain ⟨x,hx⟩:∃ x,l[j]?=some x:=⟨_,gG hlt⟩;obtain ⟨b0,o0,rfl,hb0,c0,c1,c2,c3,c4,-,-⟩:=ins_at (HR.out.later hC.out (fun _ h=>h.elim)) hx;have hb1:=h1.out.chg hC.out (fun h=>h);have f0:wr.cell? ⟨w.heap.size,0,none⟩=some (.slice z.cA z.cl.length z.cC):=by rw[hb1.cell];rfl
   have f1:wr.cell? ⟨w.heap.size,1,none⟩=some (.slice z.gA z.gl.length z.gC):=by rw[hb1.cell];rfl
   have hs:(l.take (j+1)).all (knX cs z)=knX cs z x:=by rw[List.take_succ_eq_append_getElem hlt,List.all_append,hU.out,Bool.true_and];obtain ⟨_,rfl⟩:=List.getElem?_eq_some_iff.1 hx;simp
   have hbad:knX cs z x=false->l.all (knX cs z)=false:=fun h=>by rw[List.all_eq_false];exact ⟨x,List.mem_of_getElem? hx,by rw[h];exact Bool.false_ne_true⟩
   have K0:=fun n:KW wr=>kept_cell c0 n
   have K1:=fun n:KW wr=>kept_cell c1 n
   have K2:=fun n:KW wr=>kept_cell c2 n
   have K3:=fun n:KW wr=>kept_cell c3 n
   have K4:=fun n:KW wr=>kept_cell c4 n
   have F0:=fun n:KW wr=>kept_cell f0 n
   have F1:=fun n:KW wr=>kept_cell f1 n
   have HL:=zI (fun n:KW wr=>kept_call (HT.out n.w (Ct (Ct C0.out hC.out) n.h) x.la x.lnum));have HRR:=zI (fun n:KW wr=>kept_call (HT.out n.w (Ct (Ct C0.out hC.out) n.h) x.ra x.rnum));unfold vA at HL HRR;clear hx hb0 hU f0 f1 c0 c1 c2 c3 c4 hb1;rw[show knX cs z x=(!((decide (3<=x.op) && decide (x.op<=8)) && (decide (plI cs x.la x.lnum z.cl < 0) || decide (plI cs x.ra x.rnum z.cl < 0)))) from rfl] at hs hbad;obtain ⟨pa,hta⟩:∃ pa,pa=plI cs x.la x.lnum z.cl:=⟨_,rfl⟩;obtain ⟨pb,htb⟩:∃ pb,pb=plI cs x.ra x.rnum z.cl:=⟨_,rfl⟩;rw[<-hta,<-htb] at hs hbad;rw[<-hta] at HL;rw[<-htb] at HRR;clear hta htb;obtain ⟨op,hop⟩:∃ op,op=x.op:=⟨_,rfl⟩;rw[<-hop] at hs hbad K0;clear hop;have hcs:(op < 3)\/(8 < op)\/((3<=op/\op<=8)/\pa < 0)\/((3<=op/\op<=8)/\0<=pa/\pb < 0)\/((3<=op/\op<=8)/\0<=pa/\0<=pb):=by omega
   rcases hcs with hcs0 | hcs0 | hcs0 | hcs0 | hcs0
   ·have d3:decide (3<=op)=false:=by rw[dF];omega
    replace hs:=zI (hs.trans (by simp only[d3];rfl));clear hbad hcs0;go_wp2_with fail
    refine wp_region_kept wr (Chg.refl _ _) (by kernel_rfl) (by kernel_rfl) ?_;repeat (go_big_quiet_step (first | with_reducible exact HL.out _ | with_reducible exact HRR.out _))
    refine wpQuiet_nil ?_;rintro w4 ⟨n,rfl⟩;have C4:=zI (Ct hC.out n.h);obtain ⟨w5,hw5⟩:∃ w5,w5=n.w:=⟨_,rfl⟩;rw[<-hw5] at C4 |-;clear hw5 K0 K1 K2 K3 K4 F0 F1 HL HRR;go_wp2_with fail
    go_roundw
    case rel=>exact ⟨j+1,by omega,by go_num,zI (hs.out),C4⟩
    case measure=>(simp[intOf]<;>omega)
   ·have d3:decide (3<=op)=true:=by rw[dT];omega
    have d8:decide (op<=8)=false:=by rw[dF];omega
    replace hs:=zI (hs.trans (by simp only[d3,d8];rfl));clear hbad hcs0;go_wp2_with fail
    refine wp_region_kept wr (Chg.refl _ _) (by kernel_rfl) (by kernel_rfl) ?_;repeat (go_big_quiet_step (first | with_reducible exact HL.out _ | with_reducible exact HRR.out _))
    refine wpQuiet_nil ?_;rintro w4 ⟨n,rfl⟩;have C4:=zI (Ct hC.out n.h);obtain ⟨w5,hw5⟩:∃ w5,w5=n.w:=⟨_,rfl⟩;rw[<-hw5] at C4 |-;clear hw5 K0 K1 K2 K3 K4 F0 F1 HL HRR;go_wp2_with fail
    go_roundw
    case rel=>exact ⟨j+1,by omega,by go_num,zI (hs.out),C4⟩
    case measure=>(simp[intOf]<;>omega)
   ·have d3:decide (3<=op)=true:=by rw[dT];omega
    have d8:decide (op<=8)=true:=by rw[dT];omega
    have da:decide (pa < 0)=true:=by rw[dT];omega
    have hb:=zI (hbad (by simp only[d3,d8,da];rfl));clear hs hbad hcs0;go_wp2_with fail
    refine wp_region_kept wr (Chg.refl _ _) (by kernel_rfl) (by kernel_rfl) ?_;repeat (go_big_quiet_step (first | with_reducible exact HL.out _ | with_reducible exact HRR.out _))
    refine wpQuiet_nil ?_;rintro w4 ⟨n,rfl⟩;have C4:=zI (Ct hC.out n.h);obtain ⟨w5,hw5⟩:∃ w5,w5=n.w:=⟨_,rfl⟩;rw[<-hw5] at C4 |-;clear hw5 K0 K1 K2 K3 K4 F0 F1 HL HRR;go_wp2
    go_ret;exact ⟨by rw[hb.out];rfl,Ct C0.out C4.out⟩
   ·have d3:decide (3<=op)=true:=by rw[dT];omega
    have d8:decide (op<=8)=true:=by rw[dT];omega
    have da:decide (pa < 0)=false:=by rw[dF];omega
    have db:decide (pb < 0)=true:=by rw[dT];omega
    have hb:=zI (hbad (by simp only[d3,d8,da,db];rfl));clear hs hbad hcs0;go_wp2_with fail
    refine wp_region_kept wr (Chg.refl _ _) (by kernel_rfl) (by kernel_rfl) ?_;repeat (go_big_quiet_step (first | with_reducible exact HL.out _ | with_reducible exact HRR.out _))
    refine wpQuiet_nil ?_;rintro w4 ⟨n,rfl⟩;have C4:=zI (Ct hC.out n.h);obtain ⟨w5,hw5⟩:∃ w5,w5=n.w:=⟨_,rfl⟩;rw[<-hw5] at C4 |-;clear hw5 K0 K1 K2 K3 K4 F0 F1 HL HRR;go_wp2
    go_ret;exact ⟨by rw[hb.out];rfl,Ct C0.out C4.out⟩
   ·have d3:decide (3<=op)=true:=by rw[dT];omega
    have d8:decide (op<=8)=true:=by rw[dT];omega
    have da:decide (pa < 0)=false:=by rw[dF];omega
    have db:decide (pb < 0)=false:=by rw[dF];omega
    replace hs:=zI (hs.trans (by simp only[d3,d8,da,db];rfl));clear hbad hcs0;go_wp2_with fail
    refine wp_region_kept wr (Chg.refl _ _) (by kernel_rfl) (by kernel_rfl) ?_;repeat (go_big_quiet_step (first | with_reducible exact HL.out _ | with_reducible exact HRR.out _))
    refine wpQuiet_nil ?_;rintro w4 ⟨n,rfl⟩;have C4:=zI (Ct hC.out n.h);obtain ⟨w5,hw5⟩:∃ w5,w5=n.w:=⟨_,rfl⟩;rw[<-hw5] at C4 |-;clear hw5 K0 K1 K2 K3 K4 F0 F1 HL HRR;go_wp2_with fail
    go_roundw
    case rel=>exact ⟨j+1,by omega,by go_num,zI (hs.out),C4⟩
    case measure=>(simp[intOf]<;>omega)
  ·obtain rfl:j=l.length:=by omega
   have hv:Hid (l.all (knX cs z)=true):=by show _=_;rw[<-hU.out,List.take_length]
   clear hU;go_wp2
   go_ret;exact ⟨by rw[hv.out];rfl,Ct C0.out hC.out⟩
end
end Go.Proofs.YthohgagkjnbkbaaGreat
