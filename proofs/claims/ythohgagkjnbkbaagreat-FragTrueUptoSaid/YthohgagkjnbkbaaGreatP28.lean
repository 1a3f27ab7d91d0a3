/- FragTrue, part 28: FrStH. Each theorem says what a function does, or a plain fact, under its own premises alone. -/
import Derived.Test.YthohgagkjnbkbaaGreatP27
set_option maxRecDepth 100000
set_option maxHeartbeats 16000000
namespace Go.Proofs.YthohgagkjnbkbaaGreat
section
open Go.RowKit
def tmI (m:MC) (i:Nat):Int:=match m.ev[i]? with
 | some x=>x.times
 | none=>0
def ckI (m:MC) (did cnt:List Int) (i:Nat):Bool:=wiB (did.getD i 0) m.nU && (decide (0<=cnt.getD i 0) && decide (cnt.getD i 0<=tmI m i))
def ckUp (m:MC) (did cnt:List Int) (j:Nat):Bool:=(List.range j).all (ckI m did cnt)
theorem ckUp_succ (m:MC) (did cnt:List Int) (j:Nat):ckUp m did cnt (j+1)=(ckUp m did cnt j && ckI m did cnt j):=by simp[ckUp,List.range_succ]
def ckS (m:MC) (nV:Nat) (op dn:Int) (did cnt:List Int):Bool:=decide (nV=m.nA) && (decide (did.length=m.ev.length) && (decide (cnt.length=m.ev.length) && ((wiB op m.nS && wiB dn m.mi.length) && ckUp m did cnt m.ev.length)))
theorem ckS_len {m:MC} {nV:Nat} {op dn:Int} {did cnt:List Int} (h:ckS m nV op dn did cnt=true):did.length=m.ev.length/\cnt.length=m.ev.length:=by
 unfold ckS at h;simp only[Bool.and_eq_true,decide_eq_true_eq] at h;exact ⟨h.2.1,h.2.2.1⟩
theorem ne_facts {a b:Nat} (h:a ≠ b):((a:Int) !=(b:Int))=true/\((a:Int) ==(b:Int))=false/\(a !=b)=true/\(a ==b)=false:=by
 refine ⟨?_,?_,?_,?_⟩<;>simp<;>omega
theorem eq_facts {a b:Nat} (h:a=b):((a:Int) !=(b:Int))=false/\((a:Int) ==(b:Int))=true/\(a !=b)=false/\(a ==b)=true:=by
 subst h;simp
theorem check15_any (w:World) (m:MC) (s:SC) (hM:MOK w m) (hS:SOK w s) (hn:m.ev.length<=100):Calls Tryz.prog 82 #[.agg (mA m),.agg (sA s)] w fun e w'=>e=.returned (.bool (ckS m s.nV s.op s.dn s.did s.cnt))/\Chg (fun _=>False) w w':=by
 obtain ⟨h1,h2⟩:=cells2 w 32 134 (mA m) (sA s);have C0:=zI (chg2 w (.cells (mA m) 32) (.cells (sA s) 134));obtain ⟨w1,hw1⟩:∃ w1,w1=((w.alloc (.cells (mA m) 32)).alloc (.cells (sA s) 134)):=⟨_,rfl⟩;rw[<-hw1] at C0 h1 h2;have HM:=zI (fun (w':World) (h:Chg (fun _=>False) w1 w')=>mcells (h1.chg h (fun h=>h)));have HC:=zI (fun (w':World) (h:Chg (fun _=>False) w1 w')=>scells (h2.chg h (fun h=>h)));have HS:=zI (fun (w':World) (h:Chg (fun _=>False) w1 w')=>(hS.later C0.out).later h);have HV:=zI (fun (w':World) (h:Chg (fun _=>False) w1 w')=>(hM.later C0.out).later h);obtain ⟨e0,-,e2,-,e4,e5,-,e7,-,-⟩:=HM.out w1 (Chg.refl _ _);obtain ⟨f0,f1,f2,f3,f4⟩:=HC.out w1 (Chg.refl _ _);have hr:=zI hS;clear h1 h2 hM hS;unfold mA sA at hw1 |-;by_cases ha:s.nV=m.nA
 case neg=>
  have hvf:decide (s.nV=m.nA)=false:=decide_eq_false ha;obtain ⟨d1,d2,d3,d4⟩:=ne_facts ha;have hv:Hid (ckS m s.nV s.op s.dn s.did s.cnt=false):=by show _=_;unfold ckS;rw[hvf];simp
  clear ha hvf;go_enter Tryz.func82,Tryz.ntmps82;go_wp2_with fail
  go_ret;rw[<-hw1];exact ⟨by rw[hv.out];rfl,C0.out⟩
 obtain ⟨ha1,ha2,ha3,ha4⟩:=eq_facts ha;replace ha:=zI ha;by_cases hb:s.did.length=m.ev.length
 case neg=>
  have hvf:decide (s.did.length=m.ev.length)=false:=decide_eq_false hb;obtain ⟨d1,d2,d3,d4⟩:=ne_facts hb;have hv:Hid (ckS m s.nV s.op s.dn s.did s.cnt=false):=by show _=_;unfold ckS;rw[hvf];simp
  clear hb hvf;go_enter Tryz.func82,Tryz.ntmps82;go_wp2_with fail
  go_ret;rw[<-hw1];exact ⟨by rw[hv.out];rfl,C0.out⟩
 obtain ⟨hb1,hb2,hb3,hb4⟩:=eq_facts hb;replace hb:=zI hb;by_cases hc:s.cnt.length=m.ev.length
 case neg=>
  have hvf:decide (s.cnt.length=m.ev.length)=false:=decide_eq_false hc;obtain ⟨d1,d2,d3,d4⟩:=ne_facts hc;have hv:Hid (ckS m s.nV s.op s.dn s.did s.cnt=false):=by show _=_;unfold ckS;rw[hvf];simp
  clear hc hvf;go_enter Tryz.func82,Tryz.ntmps82;go_wp2_with fail
  go_ret;rw[<-hw1];exact ⟨by rw[hv.out];rfl,C0.out⟩
 obtain ⟨hc1,hc2,hc3,hc4⟩:=eq_facts hc;replace hc:=zI hc;obtain ⟨x1,q1⟩:∃ b,wiB s.op m.nS=b:=⟨_,rfl⟩;obtain ⟨x2,q2⟩:∃ b,wiB s.dn m.mi.length=b:=⟨_,rfl⟩;have W1:=zI (fun w'=>within_any w' s.op m.nS hr.out.opR);have W2:=zI (fun w'=>within_any w' s.dn m.mi.length hr.out.dnR);rw[q1] at W1;rw[q2] at W2;have hv:Hid (ckS m s.nV s.op s.dn s.did s.cnt=((x1 && x2) && ckUp m s.did s.cnt m.ev.length)):=by
  show _=_;unfold ckS;rw[q1,q2,decide_eq_true ha.out,decide_eq_true hb.out,decide_eq_true hc.out];rfl
 clear q1 q2;have HI:Hid (∀ w',Chg (fun _=>False) w1 w'->∀ i,i < m.ev.length->∃ (ev:EvC) (b1 o1 b2 o2 b3 o3:Nat) (d c:Int),m.ev[i]?=some ev/\m.aE=some ⟨b1,o1,none⟩/\s.aD=some ⟨b2,o2,none⟩/\s.aC=some ⟨b3,o3,none⟩/\w'.cell? ⟨b1,o1+i * 5+4,none⟩=some (.int .i64 ev.times)/\w'.cell? ⟨b2,o2+i,none⟩=some (.int .i64 d)/\w'.cell? ⟨b3,o3+i,none⟩=some (.int .i64 c)/\inR d/\s.did.getD i 0=d/\s.cnt.getD i 0=c/\tmI m i=ev.times):=by
  intro w' hc' i hi;obtain ⟨ev,hev⟩:∃ x,m.ev[i]?=some x:=⟨_,gG hi⟩;obtain ⟨d,hd⟩:∃ x,s.did[i]?=some x:=⟨_,gG (by rw[hb.out];exact hi)⟩;obtain ⟨c,hcc⟩:∃ x,s.cnt[i]?=some x:=⟨_,gG (by rw[hc.out];exact hi)⟩;obtain ⟨b1,o1,h1,_,hcs⟩:=row_at (f:=evC) (C:=5) (fun _=>rfl) (by omega) (HV.out w' hc').ev hev;obtain ⟨b2,o2,h2,_,h3⟩:=int_at (HS.out w' hc').did hd;obtain ⟨b3,o3,h4,_,h5⟩:=int_at (HS.out w' hc').cnt hcc;exact ⟨ev,b1,o1,b2,o2,b3,o3,d,c,hev,h1,h2,h4,hcs 4 _ rfl,h3,h5,hr.out.didR d (List.mem_of_getElem? hd),by rw[List.getD_eq_getElem?_getD,hd];rfl,by rw[List.getD_eq_getElem?_getD,hcc];rfl,by unfold tmI;rw[hev]⟩
 go_enter Tryz.func82,Tryz.ntmps82;have hb':=hb.out;have hc'':=hc.out;replace hb':=zI hb';replace hc'':=zI hc'';go_wp2_with fail
 rw[<-hw1];clear hw1;cases x1 with
 | false=>
  go_wp2_with (go_at_call 108;refine (W1.out _).mono ?_;rintro e w' ⟨rfl,rfl⟩)
  clear e0 e2 e4 e5 e7 f0 f1 f2 f3 f4 ha1 ha2 ha3 ha4 hb1 hb2 hb3 hb4 hc1 hc2 hc3 hc4;go_loopw [7,6] (fun x y wr=>∃ (i:Nat) (ok:Bool),i<=m.ev.length/\x=.int .i64 i/\y=.bool ok/\Hid (ok=((false && x2) && ckUp m s.did s.cnt i))/\Hid (Chg (fun _=>False) w1 wr)) (fun x _ _=>m.ev.length - (intOf x).toNat)
  case atStart=>exact ⟨0,_,Nat.zero_le _,rfl,rfl,zI rfl,Chg.refl _ _⟩
  case round=>
   obtain ⟨i,ok,hi,rfl,rfl,hok,CR⟩:=hrel;by_cases hlt:i < m.ev.length
   ·obtain ⟨ev,b1,o1,b2,o2,b3,o3,d,c,-,hA1,hA2,hA3,y1,y2,y3,hdR,hgd,hgc,htm⟩:=HI.out wr CR.out i hlt;have hs:=zI (ckUp_succ m s.did s.cnt i);have hck:Hid (ckI m s.did s.cnt i=(wiB d m.nU && (decide (0<=c) && decide (c<=ev.times)))):=by show _=_;unfold ckI;rw[hgd,hgc,htm]
    rw[hck.out] at hs;obtain ⟨z1,qz1⟩:∃ b,wiB d m.nU=b:=⟨_,rfl⟩;obtain ⟨z2,qz2⟩:∃ b,decide (0<=c)=b:=⟨_,rfl⟩;obtain ⟨tm,htm2⟩:∃ tm,tm=ev.times:=⟨_,rfl⟩;rw[<-htm2] at hs y1;obtain ⟨z3,qz3⟩:∃ b,decide (c<=tm)=b:=⟨_,rfl⟩;rw[qz1,qz2,qz3] at hs;have HW:=zI (fun n':KW wr=>kept_same (within_any n'.w d m.nU hdR));rw[qz1] at HW;obtain ⟨-,-,e2,-,-,e5,-,-,-,-⟩:=HM.out wr CR.out;obtain ⟨-,-,-,f3,f4⟩:=HC.out wr CR.out;rw[hA1] at e5;rw[hA2] at f3;rw[hA3] at f4;rw[hb.out] at f3;rw[hc.out] at f4;clear hgd hgc htm htm2 hck qz1 hdR;have F3:=fun n:KW wr=>kept_cell f3 n
    have F4:=fun n:KW wr=>kept_cell f4 n
    have E2:=fun n:KW wr=>kept_cell e2 n
    have E5:=fun n:KW wr=>kept_cell e5 n
    have Y1:=fun n:KW wr=>kept_cell y1 n
    have Y2:=fun n:KW wr=>kept_cell y2 n
    have Y3:=fun n:KW wr=>kept_cell y3 n
    clear y1 y2 y3;cases ok with
    | false=>
     have hs2:Hid (false=((false && x2) && ckUp m s.did s.cnt (i+1))):=by show _=_;have h1:=hok.out;have h2:=hs.out;revert h1 h2;generalize ckUp m s.did s.cnt i=u1;generalize ckUp m s.did s.cnt (i+1)=u2;intro h1 h2;subst h2;revert h1;cases u1<;>simp
     go_wp2_with fail
     refine wp_region_kept wr (Chg.refl _ _) (by kernel_rfl) (by kernel_rfl) ?_;repeat (go_big_quiet_step (with_reducible exact HW.out _))
     refine wpQuiet_nil ?_;rintro w4 ⟨n4,rfl⟩;have C4:=zI (Ct CR.out n4.h);obtain ⟨w5,hw5⟩:∃ w5,w5=n4.w:=⟨_,rfl⟩;rw[<-hw5] at C4 |-;clear hw5 F3 F4 E2 E5 Y1 Y2 Y3 HW;go_wp2_with fail
     go_roundw
     case rel=>exact ⟨i+1,false,by omega,by go_num,rfl,hs2,C4⟩
     case measure=>(simp[intOf]<;>omega)
    | true=>
     cases z1 with
     | false=>
      have hs2:Hid (false=((false && x2) && ckUp m s.did s.cnt (i+1))):=by show _=_;have h1:=hok.out;have h2:=hs.out;revert h1 h2;generalize ckUp m s.did s.cnt i=u1;generalize ckUp m s.did s.cnt (i+1)=u2;intro h1 h2;subst h2;revert h1;cases u1<;>simp
      go_wp2_with fail
      refine wp_region_kept wr (Chg.refl _ _) (by kernel_rfl) (by kernel_rfl) ?_;repeat (go_big_quiet_step (with_reducible exact HW.out _))
      refine wpQuiet_nil ?_;rintro w4 ⟨n4,rfl⟩;have C4:=zI (Ct CR.out n4.h);obtain ⟨w5,hw5⟩:∃ w5,w5=n4.w:=⟨_,rfl⟩;rw[<-hw5] at C4 |-;clear hw5 F3 F4 E2 E5 Y1 Y2 Y3 HW;go_wp2_with fail
      go_roundw
      case rel=>exact ⟨i+1,false,by omega,by go_num,rfl,hs2,C4⟩
      case measure=>(simp[intOf]<;>omega)
     | true=>
      cases z2 with
      | false=>
       have hs2:Hid (false=((false && x2) && ckUp m s.did s.cnt (i+1))):=by show _=_;have h1:=hok.out;have h2:=hs.out;revert h1 h2;generalize ckUp m s.did s.cnt i=u1;generalize ckUp m s.did s.cnt (i+1)=u2;intro h1 h2;subst h2;revert h1;cases u1<;>simp
       go_wp2_with fail
       refine wp_region_kept wr (Chg.refl _ _) (by kernel_rfl) (by kernel_rfl) ?_;repeat (go_big_quiet_step (with_reducible exact HW.out _))
       refine wpQuiet_nil ?_;rintro w4 ⟨n4,rfl⟩;have C4:=zI (Ct CR.out n4.h);obtain ⟨w5,hw5⟩:∃ w5,w5=n4.w:=⟨_,rfl⟩;rw[<-hw5] at C4 |-;clear hw5 F3 F4 E2 E5 Y1 Y2 Y3 HW;go_wp2_with fail
       go_roundw
       case rel=>exact ⟨i+1,false,by omega,by go_num,rfl,hs2,C4⟩
       case measure=>(simp[intOf]<;>omega)
      | true=>
       cases z3 with
       | false=>
        have hs2:Hid (false=((false && x2) && ckUp m s.did s.cnt (i+1))):=by show _=_;have h1:=hok.out;have h2:=hs.out;revert h1 h2;generalize ckUp m s.did s.cnt i=u1;generalize ckUp m s.did s.cnt (i+1)=u2;intro h1 h2;subst h2;revert h1;cases u1<;>simp
        go_wp2_with fail
        refine wp_region_kept wr (Chg.refl _ _) (by kernel_rfl) (by kernel_rfl) ?_;repeat (go_big_quiet_step (with_reducible exact HW.out _))
        refine wpQuiet_nil ?_;rintro w4 ⟨n4,rfl⟩;have C4:=zI (Ct CR.out n4.h);obtain ⟨w5,hw5⟩:∃ w5,w5=n4.w:=⟨_,rfl⟩;rw[<-hw5] at C4 |-;clear hw5 F3 F4 E2 E5 Y1 Y2 Y3 HW;go_wp2_with fail
        go_roundw
        case rel=>exact ⟨i+1,false,by omega,by go_num,rfl,hs2,C4⟩
        case measure=>(simp[intOf]<;>omega)
       | true=>
        have hs2:Hid (true=((false && x2) && ckUp m s.did s.cnt (i+1))):=by show _=_;have h1:=hok.out;have h2:=hs.out;revert h1 h2;generalize ckUp m s.did s.cnt i=u1;generalize ckUp m s.did s.cnt (i+1)=u2;intro h1 h2;subst h2;revert h1;cases u1<;>simp
        go_wp2_with fail
        refine wp_region_kept wr (Chg.refl _ _) (by kernel_rfl) (by kernel_rfl) ?_;repeat (go_big_quiet_step (with_reducible exact HW.out _))
        refine wpQuiet_nil ?_;rintro w4 ⟨n4,rfl⟩;have C4:=zI (Ct CR.out n4.h);obtain ⟨w5,hw5⟩:∃ w5,w5=n4.w:=⟨_,rfl⟩;rw[<-hw5] at C4 |-;clear hw5 F3 F4 E2 E5 Y1 Y2 Y3 HW;go_wp2_with fail
        go_roundw
        case rel=>exact ⟨i+1,true,by omega,by go_num,rfl,hs2,C4⟩
        case measure=>(simp[intOf]<;>omega)
   ·obtain rfl:i=m.ev.length:=by omega
    have hv2:Hid (ckS m s.nV s.op s.dn s.did s.cnt=ok):=by show _=_;rw[hv.out,hok.out]
    clear hok hv;go_wp2_with fail
    go_ret;exact ⟨by rw[hv2.out];rfl,Ct C0.out CR.out⟩
 | true=>
  cases x2 with
  | false=>
   go_wp2_with (go_at_call 108;first | (refine (W1.out _).mono ?_;rintro e w' ⟨rfl,rfl⟩;clear W1) | (refine (W2.out _).mono ?_;rintro e w' ⟨rfl,rfl⟩))
   clear e0 e2 e4 e5 e7 f0 f1 f2 f3 f4 ha1 ha2 ha3 ha4 hb1 hb2 hb3 hb4 hc1 hc2 hc3 hc4;go_loopw [7,6] (fun x y wr=>∃ (i:Nat) (ok:Bool),i<=m.ev.length/\x=.int .i64 i/\y=.bool ok/\Hid (ok=((true && false) && ckUp m s.did s.cnt i))/\Hid (Chg (fun _=>False) w1 wr)) (fun x _ _=>m.ev.length - (intOf x).toNat)
   case atStart=>exact ⟨0,_,Nat.zero_le _,rfl,rfl,zI rfl,Chg.refl _ _⟩
   case round=>
    obtain ⟨i,ok,hi,rfl,rfl,hok,CR⟩:=hrel;by_cases hlt:i < m.ev.length
    ·obtain ⟨ev,b1,o1,b2,o2,b3,o3,d,c,-,hA1,hA2,hA3,y1,y2,y3,hdR,hgd,hgc,htm⟩:=HI.out wr CR.out i hlt;have hs:=zI (ckUp_succ m s.did s.cnt i);have hck:Hid (ckI m s.did s.cnt i=(wiB d m.nU && (decide (0<=c) && decide (c<=ev.times)))):=by show _=_;unfold ckI;rw[hgd,hgc,htm]
     rw[hck.out] at hs;obtain ⟨z1,qz1⟩:∃ b,wiB d m.nU=b:=⟨_,rfl⟩;obtain ⟨z2,qz2⟩:∃ b,decide (0<=c)=b:=⟨_,rfl⟩;obtain ⟨tm,htm2⟩:∃ tm,tm=ev.times:=⟨_,rfl⟩;rw[<-htm2] at hs y1;obtain ⟨z3,qz3⟩:∃ b,decide (c<=tm)=b:=⟨_,rfl⟩;rw[qz1,qz2,qz3] at hs;have HW:=zI (fun n':KW wr=>kept_same (within_any n'.w d m.nU hdR));rw[qz1] at HW;obtain ⟨-,-,e2,-,-,e5,-,-,-,-⟩:=HM.out wr CR.out;obtain ⟨-,-,-,f3,f4⟩:=HC.out wr CR.out;rw[hA1] at e5;rw[hA2] at f3;rw[hA3] at f4;rw[hb.out] at f3;rw[hc.out] at f4;clear hgd hgc htm htm2 hck qz1 hdR;have F3:=fun n:KW wr=>kept_cell f3 n
     have F4:=fun n:KW wr=>kept_cell f4 n
     have E2:=fun n:KW wr=>kept_cell e2 n
     have E5:=fun n:KW wr=>kept_cell e5 n
     have Y1:=fun n:KW wr=>kept_cell y1 n
     have Y2:=fun n:KW wr=>kept_cell y2 n
     have Y3:=fun n:KW wr=>kept_cell y3 n
     clear y1 y2 y3;cases ok with
     | false=>
      have hs2:Hid (false=((true && false) && ckUp m s.did s.cnt (i+1))):=by show _=_;have h1:=hok.out;have h2:=hs.out;revert h1 h2;generalize ckUp m s.did s.cnt i=u1;generalize ckUp m s.did s.cnt (i+1)=u2;intro h1 h2;subst h2;revert h1;cases u1<;>simp
      go_wp2_with fail
      refine wp_region_kept wr (Chg.refl _ _) (by kernel_rfl) (by kernel_rfl) ?_;repeat (go_big_quiet_step (with_reducible exact HW.out _))
      refine wpQuiet_nil ?_;rintro w4 ⟨n4,rfl⟩;have C4:=zI (Ct CR.out n4.h);obtain ⟨w5,hw5⟩:∃ w5,w5=n4.w:=⟨_,rfl⟩;rw[<-hw5] at C4 |-;clear hw5 F3 F4 E2 E5 Y1 Y2 Y3 HW;go_wp2_with fail
      go_roundw
      case rel=>exact ⟨i+1,false,by omega,by go_num,rfl,hs2,C4⟩
      case measure=>(simp[intOf]<;>omega)
     | true=>
      cases z1 with
      | false=>
       have hs2:Hid (false=((true && false) && ckUp m s.did s.cnt (i+1))):=by show _=_;have h1:=hok.out;have h2:=hs.out;revert h1 h2;generalize ckUp m s.did s.cnt i=u1;generalize ckUp m s.did s.cnt (i+1)=u2;intro h1 h2;subst h2;revert h1;cases u1<;>simp
       go_wp2_with fail
       refine wp_region_kept wr (Chg.refl _ _) (by kernel_rfl) (by kernel_rfl) ?_;repeat (go_big_quiet_step (with_reducible exact HW.out _))
       refine wpQuiet_nil ?_;rintro w4 ⟨n4,rfl⟩;have C4:=zI (Ct CR.out n4.h);obtain ⟨w5,hw5⟩:∃ w5,w5=n4.w:=⟨_,rfl⟩;rw[<-hw5] at C4 |-;clear hw5 F3 F4 E2 E5 Y1 Y2 Y3 HW;go_wp2_with fail
       go_roundw
       case rel=>exact ⟨i+1,false,by omega,by go_num,rfl,hs2,C4⟩
       case measure=>(simp[intOf]<;>omega)
      | true=>
       cases z2 with
       | false=>
        have hs2:Hid (false=((true && false) && ckUp m s.did s.cnt (i+1))):=by show _=_;have h1:=hok.out;have h2:=hs.out;revert h1 h2;generalize ckUp m s.did s.cnt i=u1;generalize ckUp m s.did s.cnt (i+1)=u2;intro h1 h2;subst h2;revert h1;cases u1<;>simp
        go_wp2_with fail
        refine wp_region_kept wr (Chg.refl _ _) (by kernel_rfl) (by kernel_rfl) ?_;repeat (go_big_quiet_step (with_reducible exact HW.out _))
        refine wpQuiet_nil ?_;rintro w4 ⟨n4,rfl⟩;have C4:=zI (Ct CR.out n4.h);obtain ⟨w5,hw5⟩:∃ w5,w5=n4.w:=⟨_,rfl⟩;rw[<-hw5] at C4 |-;clear hw5 F3 F4 E2 E5 Y1 Y2 Y3 HW;go_wp2_with fail
        go_roundw
        case rel=>exact ⟨i+1,false,by omega,by go_num,rfl,hs2,C4⟩
        case measure=>(simp[intOf]<;>omega)
       | true=>
        cases z3 with
        | false=>
         have hs2:Hid (false=((true && false) && ckUp m s.did s.cnt (i+1))):=by show _=_;have h1:=hok.out;have h2:=hs.out;revert h1 h2;generalize ckUp m s.did s.cnt i=u1;generalize ckUp m s.did s.cnt (i+1)=u2;intro h1 h2;subst h2;revert h1;cases u1<;>simp
         go_wp2_with fail
         refine wp_region_kept wr (Chg.refl _ _) (by kernel_rfl) (by kernel_rfl) ?_;repeat (go_big_quiet_step (with_reducible exact HW.out _))
         refine wpQuiet_nil ?_;rintro w4 ⟨n4,rfl⟩;have C4:=zI (Ct CR.out n4.h);obtain ⟨w5,hw5⟩:∃ w5,w5=n4.w:=⟨_,rfl⟩;rw[<-hw5] at C4 |-;clear hw5 F3 F4 E2 E5 Y1 Y2 Y3 HW;go_wp2_with fail
         go_roundw
         case rel=>exact ⟨i+1,false,by omega,by go_num,rfl,hs2,C4⟩
         case measure=>(simp[intOf]<;>omega)
        | true=>
         have hs2:Hid (true=((true && false) && ckUp m s.did s.cnt (i+1))):=by show _=_;have h1:=hok.out;have h2:=hs.out;revert h1 h2;generalize ckUp m s.did s.cnt i=u1;generalize ckUp m s.did s.cnt (i+1)=u2;intro h1 h2;subst h2;revert h1;cases u1<;>simp
         go_wp2_with fail
         refine wp_region_kept wr (Chg.refl _ _) (by kernel_rfl) (by kernel_rfl) ?_;repeat (go_big_quiet_step (with_reducible exact HW.out _))
         refine wpQuiet_nil ?_;rintro w4 ⟨n4,rfl⟩;have C4:=zI (Ct CR.out n4.h);obtain ⟨w5,hw5⟩:∃ w5,w5=n4.w:=⟨_,rfl⟩;rw[<-hw5] at C4 |-;clear hw5 F3 F4 E2 E5 Y1 Y2 Y3 HW;go_wp2_with fail
         go_roundw
         case rel=>exact ⟨i+1,true,by omega,by go_num,rfl,hs2,C4⟩
         case measure=>(simp[intOf]<;>omega)
    ·obtain rfl:i=m.ev.length:=by omega
     have hv2:Hid (ckS m s.nV s.op s.dn s.did s.cnt=ok):=by show _=_;rw[hv.out,hok.out]
     clear hok hv;go_wp2_with fail
     go_ret;exact ⟨by rw[hv2.out];rfl,Ct C0.out CR.out⟩
  | true=>
   go_wp2_with (go_at_call 108;first | (refine (W1.out _).mono ?_;rintro e w' ⟨rfl,rfl⟩;clear W1) | (refine (W2.out _).mono ?_;rintro e w' ⟨rfl,rfl⟩))
   clear e0 e2 e4 e5 e7 f0 f1 f2 f3 f4 ha1 ha2 ha3 ha4 hb1 hb2 hb3 hb4 hc1 hc2 hc3 hc4;go_loopw [7,6] (fun x y wr=>∃ (i:Nat) (ok:Bool),i<=m.ev.length/\x=.int .i64 i/\y=.bool ok/\Hid (ok=((true && true) && ckUp m s.did s.cnt i))/\Hid (Chg (fun _=>False) w1 wr)) (fun x _ _=>m.ev.length - (intOf x).toNat)
   case atStart=>exact ⟨0,_,Nat.zero_le _,rfl,rfl,zI rfl,Chg.refl _ _⟩
   case round=>
    obtain ⟨i,ok,hi,rfl,rfl,hok,CR⟩:=hrel;by_cases hlt:i < m.ev.length
    ·obtain ⟨ev,b1,o1,b2,o2,b3,o3,d,c,-,hA1,hA2,hA3,y1,y2,y3,hdR,hgd,hgc,htm⟩:=HI.out wr CR.out i hlt;have hs:=zI (ckUp_succ m s.did s.cnt i);have hck:Hid (ckI m s.did s.cnt i=(wiB d m.nU && (decide (0<=c) && decide (c<=ev.times)))):=by show _=_;unfold ckI;rw[hgd,hgc,htm]
     rw[hck.out] at hs;obtain ⟨z1,qz1⟩:∃ b,wiB d m.nU=b:=⟨_,rfl⟩;obtain ⟨z2,qz2⟩:∃ b,decide (0<=c)=b:=⟨_,rfl⟩;obtain ⟨tm,htm2⟩:∃ tm,tm=ev.times:=⟨_,rfl⟩;rw[<-htm2] at hs y1;obtain ⟨z3,qz3⟩:∃ b,decide (c<=tm)=b:=⟨_,rfl⟩;rw[qz1,qz2,qz3] at hs;have HW:=zI (fun n':KW wr=>kept_same (within_any n'.w d m.nU hdR));rw[qz1] at HW;obtain ⟨-,-,e2,-,-,e5,-,-,-,-⟩:=HM.out wr CR.out;obtain ⟨-,-,-,f3,f4⟩:=HC.out wr CR.out;rw[hA1] at e5;rw[hA2] at f3;rw[hA3] at f4;rw[hb.out] at f3;rw[hc.out] at f4;clear hgd hgc htm htm2 hck qz1 hdR;have F3:=fun n:KW wr=>kept_cell f3 n
     have F4:=fun n:KW wr=>kept_cell f4 n
     have E2:=fun n:KW wr=>kept_cell e2 n
     have E5:=fun n:KW wr=>kept_cell e5 n
     have Y1:=fun n:KW wr=>kept_cell y1 n
     have Y2:=fun n:KW wr=>kept_cell y2 n
     have Y3:=fun n:KW wr=>kept_cell y3 n
     clear y1 y2 y3;cases ok with
     | false=>
      have hs2:Hid (false=((true && true) && ckUp m s.did s.cnt (i+1))):=by show _=_;have h1:=hok.out;have h2:=hs.out;revert h1 h2;generalize ckUp m s.did s.cnt i=u1;generalize ckUp m s.did s.cnt (i+1)=u2;intro h1 h2;subst h2;revert h1;cases u1<;>simp
      go_wp2_with fail
      refine wp_region_kept wr (Chg.refl _ _) (by kernel_rfl) (by kernel_rfl) ?_;repeat (go_big_quiet_step (with_reducible exact HW.out _))
      refine wpQuiet_nil ?_;rintro w4 ⟨n4,rfl⟩;have C4:=zI (Ct CR.out n4.h);obtain ⟨w5,hw5⟩:∃ w5,w5=n4.w:=⟨_,rfl⟩;rw[<-hw5] at C4 |-;clear hw5 F3 F4 E2 E5 Y1 Y2 Y3 HW;go_wp2_with fail
      go_roundw
      case rel=>exact ⟨i+1,false,by omega,by go_num,rfl,hs2,C4⟩
      case measure=>(simp[intOf]<;>omega)
     | true=>
      cases z1 with
      | false=>
       have hs2:Hid (false=((true && true) && ckUp m s.did s.cnt (i+1))):=by show _=_;have h1:=hok.out;have h2:=hs.out;revert h1 h2;generalize ckUp m s.did s.cnt i=u1;generalize ckUp m s.did s.cnt (i+1)=u2;intro h1 h2;subst h2;revert h1;cases u1<;>simp
       go_wp2_with fail
       refine wp_region_kept wr (Chg.refl _ _) (by kernel_rfl) (by kernel_rfl) ?_;repeat (go_big_quiet_step (with_reducible exact HW.out _))
       refine wpQuiet_nil ?_;rintro w4 ⟨n4,rfl⟩;have C4:=zI (Ct CR.out n4.h);obtain ⟨w5,hw5⟩:∃ w5,w5=n4.w:=⟨_,rfl⟩;rw[<-hw5] at C4 |-;clear hw5 F3 F4 E2 E5 Y1 Y2 Y3 HW;go_wp2_with fail
       go_roundw
       case rel=>exact ⟨i+1,false,by omega,by go_num,rfl,hs2,C4⟩
       case measure=>(simp[intOf]<;>omega)
      | true=>
       cases z2 with
       | false=>
        have hs2:Hid (false=((true && true) && ckUp m s.did s.cnt (i+1))):=by show _=_;have h1:=hok.out;have h2:=hs.out;revert h1 h2;generalize ckUp m s.did s.cnt i=u1;generalize ckUp m s.did s.cnt (i+1)=u2;intro h1 h2;subst h2;revert h1;cases u1<;>simp
        go_wp2_with fail
        refine wp_region_kept wr (Chg.refl _ _) (by kernel_rfl) (by kernel_rfl) ?_;repeat (go_big_quiet_step (with_reducible exact HW.out _))
        refine wpQuiet_nil ?_;rintro w4 ⟨n4,rfl⟩;have C4:=zI (Ct CR.out n4.h);obtain ⟨w5,hw5⟩:∃ w5,w5=n4.w:=⟨_,rfl⟩;rw[<-hw5] at C4 |-;clear hw5 F3 F4 E2 E5 Y1 Y2 Y3 HW;go_wp2_with fail
        go_roundw
        case rel=>exact ⟨i+1,false,by omega,by go_num,rfl,hs2,C4⟩
        case measure=>(simp[intOf]<;>omega)
       | true=>
        cases z3 with
        | false=>
         have hs2:Hid (false=((true && true) && ckUp m s.did s.cnt (i+1))):=by show _=_;have h1:=hok.out;have h2:=hs.out;revert h1 h2;generalize ckUp m s.did s.cnt i=u1;generalize ckUp m s.did s.cnt (i+1)=u2;intro h1 h2;subst h2;revert h1;cases u1<;>simp
         go_wp2_with fail
         refine wp_region_kept wr (Chg.refl _ _) (by kernel_rfl) (by kernel_rfl) ?_;repeat (go_big_quiet_step (with_reducible exact HW.out _))
         refine wpQuiet_nil ?_;rintro w4 ⟨n4,rfl⟩;have C4:=zI (Ct CR.out n4.h);obtain ⟨w5,hw5⟩:∃ w5,w5=n4.w:=⟨_,rfl⟩;rw[<-hw5] at C4 |-;clear hw5 F3 F4 E2 E5 Y1 Y2 Y3 HW;go_wp2_with fail
         go_roundw
         case rel=>exact ⟨i+1,false,by omega,by go_num,rfl,hs2,C4⟩
         case measure=>(simp[intOf]<;>omega)
        | true=>
         have hs2:Hid (true=((true && true) && ckUp m s.did s.cnt (i+1))):=by show _=_;have h1:=hok.out;have h2:=hs.out;revert h1 h2;generalize ckUp m s.did s.cnt i=u1;generalize ckUp m s.did s.cnt (i+1)=u2;intro h1 h2;subst h2;revert h1;cases u1<;>simp
         go_wp2_with fail
         refine wp_region_kept wr (Chg.refl _ _) (by kernel_rfl) (by kernel_rfl) ?_;repeat (go_big_quiet_step (with_reducible exact HW.out _))
         refine wpQuiet_nil ?_;rintro w4 ⟨n4,rfl⟩;have C4:=zI (Ct CR.out n4.h);obtain ⟨w5,hw5⟩:∃ w5,w5=n4.w:=⟨_,rfl⟩;rw[<-hw5] at C4 |-;clear hw5 F3 F4 E2 E5 Y1 Y2 Y3 HW;go_wp2_with fail
         go_roundw
         case rel=>exact ⟨i+1,true,by omega,by go_num,rfl,hs2,C4⟩
         case measure=>(simp[intOf]<;>omega)
    ·obtain rfl:i=m.ev.length:=by omega
     have hv2:Hid (ckS m s.nV s.op s.dn s.did s.cnt=ok):=by show _=_;rw[hv.out,hok.out]
     clear hok hv;go_wp2_with fail
     go_ret;exact ⟨by rw[hv2.out];rfl,Ct C0.out CR.out⟩
end
end Go.Proofs.YthohgagkjnbkbaaGreat
