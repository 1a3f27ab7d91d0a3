/- FragTrue, part 14: FrGrp1. Each theorem says what a function does, or a plain fact, under its own premises alone. -/
import Derived.Test.YthohgagkjnbkbaaGreatP13
set_option maxRecDepth 100000
set_option maxHeartbeats 16000000
namespace Go.Proofs.YthohgagkjnbkbaaGreat
section
open Go.RowKit
theorem in13_any (w:World) (i m:Int):Calls Tryz.prog 43 #[.int .i64 i,.int .i64 m] w fun e w'=>e=.returned (.bool (decide (0<=i/\i < m)))/\w=w':=by
 by_cases h1:0<=i
 ·by_cases h2:i < m
  ·have d1:decide (0<=i)=true:=by simpa using h1
   have d2:decide (i < m)=true:=by simpa using h2
   have hd:Hid (decide (0<=i/\i < m)=true):=by show _=_;rw[dT];exact ⟨h1,h2⟩
   clear h1 h2;go_enter Tryz.func43,Tryz.ntmps43;go_wp2
   go_ret;exact ⟨by rw[hd.out];rfl,rfl⟩
  ·have d1:decide (0<=i)=true:=by simpa using h1
   have d2:decide (i < m)=false:=by simpa using h2
   have hd:Hid (decide (0<=i/\i < m)=false):=by show _=_;rw[dF];exact fun h=>h2 h.2
   clear h1 h2;go_enter Tryz.func43,Tryz.ntmps43;go_wp2
   go_ret;exact ⟨by rw[hd.out];rfl,rfl⟩
 ·have d1:decide (0<=i)=false:=by simpa using h1
  have hd:Hid (decide (0<=i/\i < m)=false):=by show _=_;rw[dF];exact fun h=>h1 h.1
  clear h1;go_enter Tryz.func43,Tryz.ntmps43;go_wp2
  go_ret;exact ⟨by rw[hd.out];rfl,rfl⟩
theorem in18_any (w:World) (i m:Int):Calls Tryz.prog 119 #[.int .i64 i,.int .i64 m] w fun e w'=>e=.returned (.bool (decide (0<=i/\i < m)))/\w=w':=by
 by_cases h1:0<=i
 ·by_cases h2:i < m
  ·have d1:decide (0<=i)=true:=by simpa using h1
   have d2:decide (i < m)=true:=by simpa using h2
   have hd:Hid (decide (0<=i/\i < m)=true):=by show _=_;rw[dT];exact ⟨h1,h2⟩
   clear h1 h2;go_enter Tryz.func119,Tryz.ntmps119;go_wp2
   go_ret;exact ⟨by rw[hd.out];rfl,rfl⟩
  ·have d1:decide (0<=i)=true:=by simpa using h1
   have d2:decide (i < m)=false:=by simpa using h2
   have hd:Hid (decide (0<=i/\i < m)=false):=by show _=_;rw[dF];exact fun h=>h2 h.2
   clear h1 h2;go_enter Tryz.func119,Tryz.ntmps119;go_wp2
   go_ret;exact ⟨by rw[hd.out];rfl,rfl⟩
 ·have d1:decide (0<=i)=false:=by simpa using h1
  have hd:Hid (decide (0<=i/\i < m)=false):=by show _=_;rw[dF];exact fun h=>h1 h.1
  clear h1;go_enter Tryz.func119,Tryz.ntmps119;go_wp2
  go_ret;exact ⟨by rw[hd.out];rfl,rfl⟩
def allN (n:Nat):Int:=((2 ^ n:Nat):Int) - 1
theorem allN_succ (n:Nat):allN (n+1)=2 * allN n+1:=by unfold allN;rw[Nat.pow_succ];omega
theorem allN_le {n k:Nat} (h:n<=k):0<=allN n/\allN n<=allN k:=by
 have h1:=Nat.pow_le_pow_right (n:=2) (by omega) h;have h2:=Nat.one_le_two_pow (n:=n);unfold allN;omega
theorem all13_any (w:World) (n:Nat) (hn:n<=40):Calls Tryz.prog 42 #[.int .i64 n] w fun e w'=>e=.returned (.int .i64 (allN n))/\w=w':=by
 have h40:allN 40=1099511627775:=by unfold allN;rfl
 go_enter Tryz.func42,Tryz.ntmps42;go_wp2_with fail
 go_loopw [4,3] (fun x v wr=>∃ j:Nat,j<=n/\x=.int .i64 j/\v=.int .i64 (allN j)/\w=wr) (fun x _ _=>n - (intOf x).toNat)
 case atStart=>exact ⟨0,Nat.zero_le _,rfl,rfl,rfl⟩
 case round=>
  obtain ⟨j,hj,rfl,rfl,rfl⟩:=hrel;obtain ⟨v,hv⟩:∃ v,v=allN j:=⟨_,rfl⟩;have hr:=allN_le (n:=j) (k:=40) (by omega);rw[h40,<-hv] at hr;by_cases hlt:j < n
  ·have hs:=zI (allN_succ j);rw[<-hv] at hs |-;clear hv;obtain ⟨hr1,hr2⟩:=hr;go_wp2_with fail
   go_roundw
   case rel=>exact ⟨j+1,by omega,by go_num,by rw[hs.out],trivial⟩
   case measure=>(simp[intOf]<;>omega)
  ·obtain rfl:n=j:=by omega
   have hv2:=zI hv;rw[<-hv];clear hv hr;go_wp2
   go_ret;exact ⟨by rw[<-hv2.out];rfl,rfl⟩
theorem count_any (w:World) (m:MC) (h1:m.gu.length<=1000) (h2:m.mi.length<=1000):Calls Tryz.prog 47 #[.agg (mA m)] w fun e w'=>e=.returned (.int .i64 ((m.gu.length:Int)+m.mi.length))/\Chg (fun _=>False) w w':=by
 have hb:=Blk.new w 32 (mA m);have C0:=zI ((Chg.refl (fun _=>False) w).alloc (.cells (mA m) 32));obtain ⟨-,-,-,-,-,-,e6,e7,-,-⟩:=mcells hb;clear hb;unfold mA at e6 e7 C0 |-;go_enter Tryz.func47,Tryz.ntmps47;go_wp2
 go_ret;exact ⟨rfl,C0.out⟩
def stF (m:MC) (y:Nat):Int:=if y < m.gu.length then (match m.gu[y]? with | some x=>x.stage | none=>0) else (match m.mi[y - m.gu.length]? with | some x=>x.stage | none=>0)
theorem stage_any (w:World) (m:MC) (y:Nat) (hM:MOK w m) (h2:m.mi.length<=1000) (hy:y < m.gu.length+m.mi.length):Calls Tryz.prog 78 #[.agg (mA m),.int .i64 y] w fun e w'=>e=.returned (.int .i64 (stF m y))/\Chg (fun _=>False) w w':=by
 have hb:=Blk.new w 32 (mA m);have C0:=zI ((Chg.refl (fun _=>False) w).alloc (.cells (mA m) 32));obtain ⟨-,-,-,-,-,-,e6,e7,-,-⟩:=mcells hb;have hM2:=hM.later C0.out;clear hb hM;by_cases hlt:y < m.gu.length
 ·obtain ⟨x,hx⟩:∃ x,m.gu[y]?=some x:=⟨_,gG hlt⟩;obtain ⟨b1,o1,hA,_,hc⟩:=row_at (f:=guC) (C:=3) (fun _=>rfl) (by omega) hM2.gu hx;have c0:=hc 0 _ rfl;rw[Nat.add_zero] at c0;have hv:Hid (stF m y=x.stage):=by show _=_;unfold stF;rw[if_pos hlt,hx]
  have e6':=e6.trans (show _=some (Value.slice (some ⟨b1,o1,none⟩) m.gu.length m.cG) by rw[hA]);clear e6 e7 hc hx hA hM2;unfold mA at e6' C0 c0 |-;go_enter Tryz.func78,Tryz.ntmps78;go_wp2
  go_ret;exact ⟨by rw[hv.out];rfl,C0.out⟩
 ·obtain ⟨k,rfl⟩:∃ k,y=m.gu.length+k:=⟨y - m.gu.length,by omega⟩;have hk:k < m.mi.length:=by omega
  obtain ⟨x,hx⟩:∃ x,m.mi[k]?=some x:=⟨_,gG hk⟩;obtain ⟨b1,o1,hA,_,hc⟩:=row_at (f:=miC) (C:=5) (fun _=>rfl) (by omega) hM2.mi hx;have c0:=hc 1 _ rfl;have hv:Hid (stF m (m.gu.length+k)=x.stage):=by show _=_;unfold stF;rw[if_neg hlt,show m.gu.length+k - m.gu.length=k by omega,hx]
  have e7':=e7.trans (show _=some (Value.slice (some ⟨b1,o1,none⟩) m.mi.length m.cM) by rw[hA]);have d1:decide (((m.gu.length+k:Nat):Int) < (m.gu.length:Int))=false:=by rw[dF];omega
  have hw:IntKind.i64.wrap (((m.gu.length+k:Nat):Int) - (m.gu.length:Int))=k:=by rw[IntKind.wrap_i64];omega
  obtain ⟨yy,hyy⟩:∃ yy:Int,yy=((m.gu.length+k:Nat):Int):=⟨_,rfl⟩;rw[<-hyy] at d1 hw |-;clear e7 hc hx hA hM2 hlt hy hyy;unfold mA at e6 e7' C0 c0 |-;go_enter Tryz.func78,Tryz.ntmps78;go_wp2
  go_ret;exact ⟨by rw[hv.out];rfl,C0.out⟩
def upF (l:List Int):Nat->Int->Int
 | 0,i=>if 0<=i/\i < l.length then i else -1
 | k+1,i=>if 0<=i/\i < l.length then upF l k (l.getD i.toNat 0) else -1
theorem up_any (w:World) (A:Option Addr) (c:Nat) (l:List Int) (i:Int) (n:Nat) (hn:n<=100000) (hR:Rd w w.heap.size A (intsV l)):Calls Tryz.prog 75 #[.slice A l.length c,.int .i64 i,.int .i64 n] w fun e w'=>e=.returned (.int .i64 (upF l n i))/\w=w':=by
 replace hR:=zI hR;go_enter Tryz.func75,Tryz.ntmps75;go_wp2_with fail
 go_loopw [7,1] (fun x v wr=>∃ (k:Nat) (y:Int),k<=n/\x=.int .i64 k/\v=.int .i64 y/\Hid (upF l (n - k) y=upF l n i)/\w=wr) (fun x _ _=>n - (intOf x).toNat)
 case atStart=>exact ⟨0,i,Nat.zero_le _,rfl,rfl,zI rfl,rfl⟩
 case round=>
  obtain ⟨k,y,hk,rfl,rfl,hF,rfl⟩:=hrel;by_cases hy0:y < 0
  ·have d0:decide (y < 0)=true:=by simpa using hy0
   have hv:Hid (upF l n i=-1):=by
    show _=_;rw[<-hF.out];cases n - k<;>(unfold upF;rw[if_neg (by omega)])
   clear hF hy0;by_cases hlt:k < n
   ·go_wp2
    go_ret;exact ⟨by rw[hv.out];rfl,rfl⟩
   ·obtain rfl:n=k:=by omega
    go_wp2
    go_ret;exact ⟨by rw[hv.out];rfl,rfl⟩
  have d0:decide (y < 0)=false:=by simpa using hy0
  obtain ⟨z,rfl⟩:∃ z:Nat,y=z:=⟨y.toNat,by omega⟩;by_cases hyl:z < l.length
  ·have d1:decide ((l.length:Int)<=(z:Int))=false:=by rw[dF];omega
   obtain ⟨b,o,hA,_,hc⟩:=int_at hR.out (gG hyl);obtain ⟨u,hu⟩:∃ u,u=l[z]:=⟨_,rfl⟩;rw[<-hu] at hc;by_cases hlt:k < n
   ·have hs:Hid (upF l (n - (k+1)) u=upF l n i):=by
     show _=_;rw[<-hF.out,show n - k=(n - (k+1))+1 by omega];conv=>rhs;unfold upF
     rw[if_pos (by omega)];congr 1
     rw[hu];simp[List.getD_eq_getElem?_getD,hyl]
    clear hF hu hy0;subst hA;go_wp2_with fail
    go_roundw
    case rel=>exact ⟨k+1,u,by omega,by go_num,rfl,hs,trivial⟩
    case measure=>(simp[intOf]<;>omega)
   ·obtain rfl:n=k:=by omega
    have hv:Hid (upF l n i=z):=by
     show _=_;rw[<-hF.out,Nat.sub_self];unfold upF;rw[if_pos (by omega)]
    clear hF hy0 hu hc hA;go_wp2
    go_ret;exact ⟨by rw[hv.out];rfl,rfl⟩
  ·have d1:decide ((l.length:Int)<=(z:Int))=true:=by rw[dT];omega
   have hv:Hid (upF l n i=-1):=by
    show _=_;rw[<-hF.out];cases n - k<;>(unfold upF;rw[if_neg (by omega)])
   clear hF hy0;by_cases hlt:k < n
   ·go_wp2
    go_ret;exact ⟨by rw[hv.out];rfl,rfl⟩
   ·obtain rfl:n=k:=by omega
    go_wp2
    go_ret;exact ⟨by rw[hv.out];rfl,rfl⟩
def isP (l:List Int) (a i:Int) (k:Nat):Bool:=decide (0<=a) && (upF l (k+1) i ==a)
def isF (l:List Int) (a i:Int):Bool:=(List.range l.length).any (isP l a i)
theorem isF_yes {l:List Int} {a i:Int} {k:Nat} (hk:k < l.length) (h:isP l a i k=true):isF l a i=true:=List.any_eq_true.2 ⟨k,List.mem_range.2 hk,h⟩
theorem isUp_succ (l:List Int) (a i:Int) (k:Nat):(List.range (k+1)).any (isP l a i)=((List.range k).any (isP l a i) || isP l a i k):=by rw[List.range_succ,List.any_append];simp
theorem is10_any (w:World) (A:Option Addr) (c:Nat) (l:List Int) (a i:Int) (hl:l.length<=10000) (hR:Rd w w.heap.size A (intsV l)):Calls Tryz.prog 46 #[.slice A l.length c,.int .i64 a,.int .i64 i] w fun e w'=>e=.returned (.bool (isF l a i))/\w=w':=by
 have HU:=zI (fun (n:Nat) (hn:n<=100000)=>up_any w A c l i n hn hR);clear hR;go_enter Tryz.func46,Tryz.ntmps46;go_wp2_with fail
 go_loopw [7] (fun x wr=>∃ k:Nat,k<=l.length/\x=.int .i64 ((k:Int)+1)/\Hid ((List.range k).any (isP l a i)=false)/\w=wr) (fun x _=>l.length+1 - (intOf x).toNat)
 case atStart=>exact ⟨0,Nat.zero_le _,rfl,zI rfl,rfl⟩
 case round=>
  obtain ⟨k,hk,rfl,hF,rfl⟩:=hrel;by_cases hlt:k < l.length
  ·have hs:=isUp_succ l a i k;rw[hF.out,Bool.false_or] at hs;have hyes:=fun h=>isF_yes (a:=a) (i:=i) hlt h
   have dl:decide ((k:Int)+1<=(l.length:Int))=true:=by rw[dT];omega
   unfold isP at hyes;rw[show isP l a i k=(decide (0<=a) && (upF l (k+1) i ==a)) from rfl] at hs;have HUk:=HU.out (k+1) (by omega);rw[show ((k+1:Nat):Int)=(k:Int)+1 by omega] at HUk;obtain ⟨u,hu⟩:∃ u,u=upF l (k+1) i:=⟨_,rfl⟩;rw[<-hu] at hs hyes HUk;clear hu hF;replace HUk:=zI HUk;by_cases ha:0<=a
   ·have da:decide (0<=a)=true:=by simpa using ha
    rw[da,Bool.true_and] at hs hyes;obtain ⟨eb,heb⟩:∃ eb,(u ==a)=eb:=⟨_,rfl⟩;rw[heb] at hs hyes;clear ha;cases eb with
    | true=>
     have hv:=zI (hyes rfl);clear hs hyes;go_wp2_with (go_at_call 75;refine HUk.out.mono ?_;rintro e w' ⟨rfl,rfl⟩)
     go_ret;exact ⟨by rw[hv.out];rfl,rfl⟩
    | false=>
     replace hs:=zI hs;clear hyes;go_wp2_with (go_at_call 75;refine HUk.out.mono ?_;rintro e w' ⟨rfl,rfl⟩)
     go_roundw
     case rel=>exact ⟨k+1,by omega,by go_num,hs,trivial⟩
     case measure=>(simp[intOf]<;>omega)
   ·have da:decide (0<=a)=false:=by simpa using ha
    rw[da,Bool.false_and] at hs;replace hs:=zI hs;clear hyes ha;go_wp2_with fail
    go_roundw
    case rel=>exact ⟨k+1,by omega,by go_num,hs,trivial⟩
    case measure=>(simp[intOf]<;>omega)
  ·obtain rfl:k=l.length:=by omega
   have dl:decide ((l.length:Int)+1<=(l.length:Int))=false:=by rw[dF];omega
   have hv:Hid (isF l a i=false):=hF;clear hF;go_wp2
   go_ret;exact ⟨by rw[hv.out];rfl,rfl⟩
def circF (l:List Int):Int:=match (List.range l.length).find? (fun (i:Nat)=>isF l (i:Int) (i:Int)) with
 | some i=>i
 | none=>-1
theorem circF_no {l:List Int} (h:∀ i,i < l.length->isF l i i=false):circF l=-1:=by
 unfold circF;rw[show (List.range l.length).find? (fun (i:Nat)=>isF l (i:Int) (i:Int))=none by
  rw[List.find?_eq_none];intro i hi;rw[h i (List.mem_range.1 hi)];exact Bool.false_ne_true]
theorem circF_yes {l:List Int} {k:Nat} (hk:k < l.length) (h:∀ i,i < k->isF l i i=false) (hy:isF l k k=true):circF l=k:=by
 unfold circF;rw[show (List.range l.length).find? (fun (i:Nat)=>isF l (i:Int) (i:Int))=some k by
  rw[List.find?_range_eq_some];exact ⟨hy,List.mem_range.2 hk,fun i hi=>by rw[h i hi];rfl⟩]
theorem circle_any (w:World) (A:Option Addr) (c:Nat) (l:List Int) (hl:l.length<=10000) (hR:Rd w w.heap.size A (intsV l)):Calls Tryz.prog 21 #[.slice A l.length c] w fun e w'=>e=.returned (.int .i64 (circF l))/\w=w':=by
 have HU:=zI (fun (i:Int)=>is10_any w A c l i i hl hR);clear hR;go_enter Tryz.func21,Tryz.ntmps21;go_wp2_with fail
 go_loopw [3] (fun x wr=>∃ k:Nat,k<=l.length/\x=.int .i64 k/\Hid (∀ i,i < k->isF l i i=false)/\w=wr) (fun x _=>l.length - (intOf x).toNat)
 case atStart=>exact ⟨0,Nat.zero_le _,rfl,zI (fun i h=>absurd h (by omega)),rfl⟩
 case round=>
  obtain ⟨k,hk,rfl,hF,rfl⟩:=hrel;by_cases hlt:k < l.length
  ·have HUk:=zI (HU.out k);obtain ⟨eb,heb⟩:∃ eb,eb=isF l k k:=⟨_,rfl⟩;rw[<-heb] at HUk;replace heb:=zI heb;cases eb with
   | true=>
    have hv:=zI (circF_yes hlt hF.out heb.out.symm);go_wp2_with (go_at_call 46;refine HUk.out.mono ?_;rintro e w' ⟨rfl,rfl⟩)
    go_ret;exact ⟨by rw[hv.out];rfl,rfl⟩
   | false=>
    have hs:Hid (∀ i,i < k+1->isF l i i=false):=zI (fun i hi=>by
     rcases Nat.lt_or_eq_of_le (Nat.lt_succ_iff.1 hi) with h | h
     ·exact hF.out i h
     ·rw[h];exact heb.out.symm)
    go_wp2_with (go_at_call 46;refine HUk.out.mono ?_;rintro e w' ⟨rfl,rfl⟩)
    go_roundw
    case rel=>exact ⟨k+1,by omega,by go_num,hs,trivial⟩
    case measure=>(simp[intOf]<;>omega)
  ·obtain rfl:k=l.length:=by omega
   have hv:=zI (circF_no hF.out);go_wp2
   go_ret;exact ⟨by rw[hv.out];rfl,rfl⟩
end
end Go.Proofs.YthohgagkjnbkbaaGreat
