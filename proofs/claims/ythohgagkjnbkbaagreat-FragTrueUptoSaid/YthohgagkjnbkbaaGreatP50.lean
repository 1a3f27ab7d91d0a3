/- FragTrue, part 50: Great. Each theorem says what a function does, or a plain fact, under its own premises alone. -/
import Derived.Test.YthohgagkjnbkbaaGreatP1
set_option maxRecDepth 100000
set_option maxHeartbeats 16000000
namespace Go.Proofs.YthohgagkjnbkbaaGreat
section
open Go.RowKit
def GreatR (m:MC) (e:Ending):Prop:=e=.returned (.bool true)\/(e=.returned (.bool false)/\m.nU<=10/\m.nS<=10)
theorem great_any (w:World) (m:MC) (s:SC) (hG:Good w m s):Calls Tryz.prog 5 #[.agg (mA m)] w fun e w'=>GreatR m e/\Chg (fun _=>False) w w':=by
 have hl:=hG.lens;unfold maxLen at hl;obtain ⟨l0,l1,l2,l3,l4,l5,l6,l7,l8,l9⟩:=hl;have HC:=zI ((Chg.refl (fun _=>False) w).alloc (.cells (mA m) 32));have HG:=zI hG;have hb:=Blk.new w 32 (mA m);unfold mA at HC;unfold mA;clear hG;by_cases c0:14 < m.gu.length
 ·clear hb;go_enter Tryz.func5,Tryz.ntmps5;go_wp2
  go_ret;exact ⟨.inl rfl,HC.out⟩
 by_cases c1:10 < m.mi.length
 ·clear hb;go_enter Tryz.func5,Tryz.ntmps5;go_wp2
  go_ret;exact ⟨.inl rfl,HC.out⟩
 by_cases c2:10 < m.nS
 ·clear hb;go_enter Tryz.func5,Tryz.ntmps5;go_wp2
  go_ret;exact ⟨.inl rfl,HC.out⟩
 by_cases c3:10 < m.ev.length
 ·clear hb;go_enter Tryz.func5,Tryz.ntmps5;go_wp2
  go_ret;exact ⟨.inl rfl,HC.out⟩
 by_cases c4:10 < m.nA
 ·clear hb;go_enter Tryz.func5,Tryz.ntmps5;go_wp2
  go_ret;exact ⟨.inl rfl,HC.out⟩
 by_cases c5:10 < m.nU
 ·clear hb;go_enter Tryz.func5,Tryz.ntmps5;go_wp2
  go_ret;exact ⟨.inl rfl,HC.out⟩
 by_cases c6:10 < m.ro.length
 ·clear hb;go_enter Tryz.func5,Tryz.ntmps5;go_wp2
  go_ret;exact ⟨.inl rfl,HC.out⟩
 by_cases c7:10 < m.so.length
 ·clear hb;go_enter Tryz.func5,Tryz.ntmps5;go_wp2
  go_ret;exact ⟨.inl rfl,HC.out⟩
 by_cases c8:40 < m.nO
 ·clear hb;go_enter Tryz.func5,Tryz.ntmps5;go_wp2
  go_ret;exact ⟨.inl rfl,HC.out⟩
 by_cases c9:10 < m.nI
 ·clear hb;go_enter Tryz.func5,Tryz.ntmps5;go_wp2
  go_ret;exact ⟨.inl rfl,HC.out⟩
 go_enter Tryz.func5,Tryz.ntmps5;go_wp2_with fail
 obtain ⟨w1,hw1⟩:∃ w1,w1=w.alloc (.cells (mA m) 32):=⟨_,rfl⟩;rw[<-hw1] at hb;unfold mA at hw1;rw[<-hw1] at HC |-;clear hw1;have HC1:=HC;have HG1:=zI (HG.out.later HC.out);obtain ⟨-,-,-,-,-,e5,e6,e7,-,-⟩:=mcells hb;clear hb;obtain ⟨g,hg⟩:∃ g,g=w.heap.size:=⟨_,rfl⟩;rw[<-hg] at e5 e6 e7 |-;clear hg;have hend:=zI (show m.nU<=10/\m.nS<=10 from ⟨by omega,by omega⟩);go_loopw [3] (fun x wr=>∃ j:Nat,j<=m.gu.length/\x=.int .i64 j/\w1=wr) (fun x _=>m.gu.length - (intOf x).toNat)
 case atStart=>exact ⟨0,Nat.zero_le _,rfl,rfl⟩
 case round=>
  obtain ⟨j,hj,rfl,rfl⟩:=hrel;by_cases hlt:j < m.gu.length
  ·obtain ⟨x,hx⟩:∃ x,m.gu[j]?=some x:=⟨_,gG hlt⟩;obtain ⟨b1,o1,hA1,hb1,hc⟩:=row_at (f:=guC) (C:=3) (fun _=>rfl) (by omega) (HG1.out.gu) hx;have r1:=hc 2 _ rfl;have e62:=e6;rw[hA1] at e62;have hcell:=zI e6;clear hc hx hA1 e6;by_cases hgt:80 < x.il
   ·have hd:decide ((80:Int) < (x.il:Int))=true:=by rw[dT];omega
    clear hgt;go_wp2
    go_ret;exact ⟨.inl rfl,HC1.out⟩
   ·have hd:decide ((80:Int) < (x.il:Int))=false:=by rw[dF];omega
    clear hgt;go_wp2
    go_roundw
    case rel=>exact ⟨j+1,by omega,by go_num,by first | rfl | trivial⟩
    case measure=>(simp[intOf]<;>omega)
  ·obtain rfl:j=m.gu.length:=by omega
   clear hlt hj;go_wp2_with fail
   go_loopw [4] (fun x wr=>∃ j:Nat,j<=m.mi.length/\x=.int .i64 j/\w1=wr) (fun x _=>m.mi.length - (intOf x).toNat)
   case atStart=>exact ⟨0,Nat.zero_le _,rfl,rfl⟩
   case round=>
    obtain ⟨j,hj,rfl,rfl⟩:=hrel;by_cases hlt:j < m.mi.length
    ·obtain ⟨x,hx⟩:∃ x,m.mi[j]?=some x:=⟨_,gG hlt⟩;obtain ⟨b1,o1,hA1,hb1,hc⟩:=row_at (f:=miC) (C:=5) (fun _=>rfl) (by omega) (HG1.out.mi) hx;have r1:=hc 3 _ rfl;have e72:=e7;rw[hA1] at e72;have hcell:=zI e7;clear hc hx hA1 e7;by_cases hgt:80 < x.il
     ·have hd:decide ((80:Int) < (x.il:Int))=true:=by rw[dT];omega
      clear hgt;go_wp2
      go_ret;exact ⟨.inl rfl,HC1.out⟩
     ·have hd:decide ((80:Int) < (x.il:Int))=false:=by rw[dF];omega
      clear hgt;go_wp2
      go_roundw
      case rel=>exact ⟨j+1,by omega,by go_num,by first | rfl | trivial⟩
      case measure=>(simp[intOf]<;>omega)
    ·obtain rfl:j=m.mi.length:=by omega
     clear hlt hj;go_wp2_with fail
     go_loopw [5] (fun x wr=>∃ j:Nat,j<=m.ev.length/\x=.int .i64 j/\w1=wr) (fun x _=>m.ev.length - (intOf x).toNat)
     case atStart=>exact ⟨0,Nat.zero_le _,rfl,rfl⟩
     case round=>
      obtain ⟨j,hj,rfl,rfl⟩:=hrel;by_cases hlt:j < m.ev.length
      ·obtain ⟨x,hx⟩:∃ x,m.ev[j]?=some x:=⟨_,gG hlt⟩;obtain ⟨b1,o1,hA1,hb1,hc⟩:=row_at (f:=evC) (C:=5) (fun _=>rfl) (by omega) (HG1.out.ev) hx;have r1:=hc 3 _ rfl;have e52:=e5;rw[hA1] at e52;have hcell:=zI e5;clear hc hx hA1 e5;by_cases hgt:10 < x.sn
       ·have hd:decide ((10:Int) < (x.sn:Int))=true:=by rw[dT];omega
        clear hgt;go_wp2
        go_ret;exact ⟨.inl rfl,HC1.out⟩
       ·have hd:decide ((10:Int) < (x.sn:Int))=false:=by rw[dF];omega
        clear hgt;go_wp2
        go_roundw
        case rel=>exact ⟨j+1,by omega,by go_num,by first | rfl | trivial⟩
        case measure=>(simp[intOf]<;>omega)
      ·obtain rfl:j=m.ev.length:=by omega
       clear hlt hj;go_wp2
       go_ret;exact ⟨.inr ⟨rfl,hend.out⟩,HC1.out⟩
end
end Go.Proofs.YthohgagkjnbkbaaGreat
