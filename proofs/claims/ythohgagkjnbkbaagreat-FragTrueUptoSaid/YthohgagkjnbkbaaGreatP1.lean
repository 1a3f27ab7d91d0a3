/- FragTrue, part 1: Bits Model Com Of Kept Free Apart. Each theorem says what a function does, or a plain fact, under its own premises alone. -/
import Derived.Test.YthohgagkjnbkbaaGreatP0
set_option maxRecDepth 100000
set_option maxHeartbeats 16000000
namespace Go.Proofs.YthohgagkjnbkbaaGreat
section
open Go.RowKit
def hasB (s i:Int):Bool:=decide (0<=i/\i < 31) && decide ((s / 2 ^ i.toNat) % 2=1)
theorem in_any (w:World) (i m:Int):Calls Tryz.prog 123 #[.int .i64 i,.int .i64 m] w fun e w'=>e=.returned (.bool (decide (0<=i/\i < m)))/\w=w':=by
 by_cases h1:0<=i
 ·by_cases h2:i < m
  ·have d1:decide (0<=i)=true:=by simpa using h1
   have d2:decide (i < m)=true:=by simpa using h2
   have hd:Hid (decide (0<=i/\i < m)=true):=by show _=_;rw[dT];exact ⟨h1,h2⟩
   clear h1 h2;go_enter Tryz.func123,Tryz.ntmps123;go_wp2
   go_ret;exact ⟨by rw[hd.out];rfl,rfl⟩
  ·have d1:decide (0<=i)=true:=by simpa using h1
   have d2:decide (i < m)=false:=by simpa using h2
   have hd:Hid (decide (0<=i/\i < m)=false):=by show _=_;rw[dF];exact fun h=>h2 h.2
   clear h1 h2;go_enter Tryz.func123,Tryz.ntmps123;go_wp2
   go_ret;exact ⟨by rw[hd.out];rfl,rfl⟩
 ·have d1:decide (0<=i)=false:=by simpa using h1
  have hd:Hid (decide (0<=i/\i < m)=false):=by show _=_;rw[dF];exact fun h=>h1 h.1
  clear h1;go_enter Tryz.func123,Tryz.ntmps123;go_wp2
  go_ret;exact ⟨by rw[hd.out];rfl,rfl⟩
theorem hasB_in {s:Int} {k:Nat} (h:k < 31):hasB s k=decide ((s / 2 ^ k) % 2=1):=by
 unfold hasB;rw[show (decide (0<=(k:Int)/\(k:Int) < 31))=true by rw[dT];omega];simp
theorem half {s:Int} {k:Nat}:s / 2 ^ k / 2=s / 2 ^ (k+1):=by rw[Int.pow_succ,Int.ediv_ediv_of_nonneg];exact Int.le_of_lt (Int.pow_pos (by omega))
theorem div_in {s:Int} (h:-9223372036854775808<=s/\s<=9223372036854775807) (k:Nat):-9223372036854775808<=s / 2 ^ k/\s / 2 ^ k<=9223372036854775807:=by
 induction k with
 | zero=>simpa using h
 | succ k ih=>rw[<-half];omega
theorem tmod2 (y:Int):(y.tmod 2=0/\y % 2=0)\/(y.tmod 2=1/\y % 2=1)\/(y.tmod 2=-1/\y % 2=1):=by
 rcases Int.lt_or_le y 0 with h | h
 ·have e:y.tmod 2=-((-y).tmod 2):=by rw[Int.neg_tmod,Int.neg_neg]
  rw[e,Int.tmod_eq_emod_of_nonneg (by omega)];omega
 ·rw[Int.tmod_eq_emod_of_nonneg h];omega
theorem tdiv2 (y:Int) (h:y % 2=0):y.tdiv 2=y / 2:=Int.tdiv_eq_ediv_of_dvd (Int.dvd_of_emod_eq_zero h)
theorem refHas_any (w:World) (s i:Int) (hs:-9223372036854775808<=s/\s<=9223372036854775807):Calls Tryz.prog 99 #[.int .i64 s,.int .i64 i] w fun e w'=>e=.returned (.bool (hasB s i))/\w=w':=by
 by_cases h0:i < 0
 ·have hb:Hid (hasB s i=false):=by show _=_;unfold hasB;rw[show decide (0<=i/\i < 31)=false by rw[dF];omega];rfl
  have d1:decide (i < 0)=true:=by simpa using h0
  clear h0;go_enter Tryz.func99,Tryz.ntmps99;go_wp2
  go_ret;exact ⟨by rw[hb.out];rfl,rfl⟩
 have d1:decide (i < 0)=false:=by simpa using h0
 by_cases h1:30 < i
 ·have hb:Hid (hasB s i=false):=by show _=_;unfold hasB;rw[show decide (0<=i/\i < 31)=false by rw[dF];omega];rfl
  have d2:decide (30 < i)=true:=by simpa using h1
  clear h0 h1;go_enter Tryz.func99,Tryz.ntmps99;go_wp2
  go_ret;exact ⟨by rw[hb.out];rfl,rfl⟩
 have d2:decide (30 < i)=false:=by simpa using h1
 obtain ⟨n,rfl⟩:∃ n:Nat,i=n:=⟨i.toNat,by omega⟩;have hn:n < 31:=by omega
 have hb:=zI (hasB_in (s:=s) hn);have HS:=zI hs;clear h0 h1 hs;go_enter Tryz.func99,Tryz.ntmps99;go_wp2
 go_loopw [5,0] (fun k x wr=>∃ (j:Nat) (y:Int),j<=n/\k=.int .i64 j/\x=.int .i64 y/\Hid (y=s / 2 ^ j)/\w=wr) (fun k _ _=>n - (intOf k).toNat)
 case atStart=>exact ⟨0,s,Nat.zero_le _,rfl,rfl,zI (by simp),rfl⟩
 case round=>
  obtain ⟨j,y,hj,rfl,rfl,hy,rfl⟩:=hrel;have hr:-9223372036854775808<=y/\y<=9223372036854775807:=by rw[hy.out];exact div_in HS.out j
  by_cases hlt:j < n
  ·rcases tmod2 y with ⟨hq,hq2⟩ | ⟨hq,hq2⟩ | ⟨hq,hq2⟩
   ·have h2:=zI (tdiv2 y hq2);go_wp2
    go_roundw
    case rel=>exact ⟨j+1,y / 2,by omega,by go_num,by rw[h2.out],zI (by rw[hy.out,half]),by first | rfl | trivial⟩
    case measure=>(simp[intOf]<;>omega)
   ·have h2:=zI ((tdiv2 (y - 1) (by omega)).trans (show (y - 1) / 2=y / 2 by omega));go_wp2
    go_roundw
    case rel=>exact ⟨j+1,y / 2,by omega,by go_num,by rw[h2.out],zI (by rw[hy.out,half]),by first | rfl | trivial⟩
    case measure=>(simp[intOf]<;>omega)
   ·have h2:=zI ((tdiv2 (y - 1) (by omega)).trans (show (y - 1) / 2=y / 2 by omega));go_wp2
    go_roundw
    case rel=>exact ⟨j+1,y / 2,by omega,by go_num,by rw[h2.out],zI (by rw[hy.out,half]),by first | rfl | trivial⟩
    case measure=>(simp[intOf]<;>omega)
  ·obtain rfl:j=n:=by omega
   rcases tmod2 y with ⟨hq,hq2⟩ | ⟨hq,hq2⟩ | ⟨hq,hq2⟩
   all_goals
    have hv:Hid (hasB s j=decide (y % 2=1)):=by show _=_;rw[hb.out,hy.out]
    rw[hq2] at hv;go_wp2
    go_ret;exact ⟨by rw[hv.out];rfl,rfl⟩
structure EvC where
 nm:ByteArray
 role:Int
 stage:Int
 sa:Option Addr
 sn:Nat
 sc:Nat
 times:Int
structure MiC where
 nm:ByteArray
 stage:Int
 event:Int
 ia:Option Addr
 il:Nat
 ic:Nat
 fin:Bool
structure RoC where
 nm:ByteArray
 us:Int
structure GuC where
 stage:Int
 event:Int
 ia:Option Addr
 il:Nat
 ic:Nat
def evC (x:EvC):List Value:=[.string x.nm,.int .i64 x.role,.int .i64 x.stage,.slice x.sa x.sn x.sc,.int .i64 x.times]
def miC (x:MiC):List Value:=[.string x.nm,.int .i64 x.stage,.int .i64 x.event,.slice x.ia x.il x.ic,.bool x.fin]
def roC (x:RoC):List Value:=[.string x.nm,.int .i64 x.us]
def guC (x:GuC):List Value:=[.int .i64 x.stage,.int .i64 x.event,.slice x.ia x.il x.ic]
def soC (x:Int × Int):List Value:=[.int .i64 x.1,.int .i64 x.2]
def inC (x:Int):List Value:=[.int .i64 x]
structure MC where
 aA:Option Addr
 nA:Nat
 cA:Nat
 aI:Option Addr
 nI:Nat
 cI:Nat
 aU:Option Addr
 nU:Nat
 cU:Nat
 aR:Option Addr
 ro:List RoC
 cR:Nat
 aS:Option Addr
 nS:Nat
 cS:Nat
 aE:Option Addr
 ev:List EvC
 cE:Nat
 aG:Option Addr
 gu:List GuC
 cG:Nat
 aM:Option Addr
 mi:List MiC
 cM:Nat
 aD:Option Addr
 so:List (Int × Int)
 cD:Nat
 aO:Option Addr
 nO:Nat
 cO:Nat
def mA (m:MC):Array Value:=#[.slice m.aA m.nA m.cA,.slice m.aI m.nI m.cI,.slice m.aU m.nU m.cU,.slice m.aR m.ro.length m.cR,.slice m.aS m.nS m.cS,.slice m.aE m.ev.length m.cE,.slice m.aG m.gu.length m.cG,.slice m.aM m.mi.length m.cM,.slice m.aD m.so.length m.cD,.slice m.aO m.nO m.cO]
structure SC where
 aV:Option Addr
 nV:Nat
 cV:Nat
 op:Int
 dn:Int
 aD:Option Addr
 did:List Int
 cD:Nat
 aC:Option Addr
 cnt:List Int
 cC:Nat
def sA (s:SC):Array Value:=#[.slice s.aV s.nV s.cV,.int .i64 s.op,.int .i64 s.dn,.slice s.aD s.did.length s.cD,.slice s.aC s.cnt.length s.cC]
def inR (n:Int):Prop:=-9223372036854775808<=n/\n<=9223372036854775807
structure Good (W:World) (m:MC) (s:SC):Prop where
 ro:Rd W W.heap.size m.aR (m.ro.flatMap roC)
 ev:Rd W W.heap.size m.aE (m.ev.flatMap evC)
 gu:Rd W W.heap.size m.aG (m.gu.flatMap guC)
 mi:Rd W W.heap.size m.aM (m.mi.flatMap miC)
 so:Rd W W.heap.size m.aD (m.so.flatMap soC)
 did:Rd W W.heap.size s.aD (s.did.flatMap inC)
 cnt:Rd W W.heap.size s.aC (s.cnt.flatMap inC)
 lens:m.nA<=maxLen/\m.nI<=maxLen/\m.nU<=maxLen/\m.ro.length<=maxLen/\m.nS<=maxLen/\m.ev.length<=maxLen/\m.gu.length<=maxLen/\m.mi.length<=maxLen/\m.so.length<=maxLen/\m.nO<=maxLen
 lens2:s.nV<=maxLen/\s.did.length<=maxLen/\s.cnt.length<=maxLen
 opR:inR s.op
 dnR:inR s.dn
 usR:∀ x ∈ m.ro,inR x.us
 didR:∀ x ∈ s.did,inR x
theorem Rd.later {S:Nat->Prop} {w w':World} {A:Option Addr} {xs:List Value} (h:Rd w w.heap.size A xs) (hc:Chg S w w') (hS:∀ k,S k->w.heap.size<=k):Rd w' w'.heap.size A xs:=(h.chg hc (Nat.le_refl _) hS).more hc.size
theorem Good.later {w w':World} {m:MC} {s:SC} (h:Good w m s) (hc:Chg (fun _=>False) w w'):Good w' m s:=
 ⟨h.ro.later hc (fun _ h=>h.elim),h.ev.later hc (fun _ h=>h.elim),h.gu.later hc (fun _ h=>h.elim),h.mi.later hc (fun _ h=>h.elim),h.so.later hc (fun _ h=>h.elim),h.did.later hc (fun _ h=>h.elim),h.cnt.later hc (fun _ h=>h.elim),h.lens,h.lens2,h.opR,h.dnR,h.usR,h.didR⟩
theorem row_at {α:Type} {f:α->List Value} {C:Nat} (hf:∀ x,(f x).length=C) (hC:0 < C) {w:World} {B:Nat} {A:Option Addr} {l:List α} (h:Rd w B A (l.flatMap f)) {i:Nat} {x:α} (hi:l[i]?=some x):
  ∃ b o,A=some ⟨b,o,none⟩/\b < B/\∀ r u,(f x)[r]?=some u->w.cell? ⟨b,o+i * C+r,none⟩=some u:=by
 obtain ⟨hil,rfl⟩:=List.getElem?_eq_some_iff.1 hi;have hlen:(l.flatMap f).length=l.length * C:=flat_len f hf l;obtain ⟨b,o,hA,hb,hc⟩:=h.plain (by rw[hlen];exact Nat.mul_pos (by omega) hC);refine ⟨b,o,hA,hb,fun r u hr=>?_⟩;have hrC:r < C:=by rw[<-hf l[i]];exact (List.getElem?_eq_some_iff.1 hr).1
 have:=hc (i * C+r) u (by rw[<-hr];exact flat_get f hf l i r hil hrC);rwa [<-Nat.add_assoc] at this
theorem keep_cell {S:Nat->Prop} {w1 w2:World} (h:Chg S w1 w2) (hS:∀ k,¬ S k) {p:Addr} {u:Value} (hu:w1.cell? p=some u):w2.cell? p=some u:=by
 rw[h.cell (World.block_lt_of_cell? w1 p hu) (hS _)];exact hu
structure Boxes (w:World) (g k:Nat) (m:MC) (s:SC):Prop where
 m:Blk w g 32 (mA m)
 s:Blk w k 134 (sA s)
theorem Boxes.later {w w':World} {g k:Nat} {m:MC} {s:SC} (h:Boxes w g k m s) (hc:Chg (fun _=>False) w w'):Boxes w' g k m s:=⟨h.m.chg hc (fun h=>h),h.s.chg hc (fun h=>h)⟩
theorem Boxes.new (w:World) (m:MC) (s:SC):Boxes ((w.alloc (.cells (mA m) 32)).alloc (.cells (sA s) 134)) w.heap.size (w.heap.size+1) m s:=by
 refine ⟨(Blk.new w 32 (mA m)).alloc _,?_⟩;have h:=Blk.new (w.alloc (.cells (mA m) 32)) 134 (sA s);rwa [show (w.alloc (.cells (mA m) 32)).heap.size=w.heap.size+1 by simp] at h
theorem mcells {w:World} {g:Nat} {m:MC} (h:Blk w g 32 (mA m)):w.cell? ⟨g,0,none⟩=some (.slice m.aA m.nA m.cA)/\w.cell? ⟨g,1,none⟩=some (.slice m.aI m.nI m.cI)/\w.cell? ⟨g,2,none⟩=some (.slice m.aU m.nU m.cU)/\w.cell? ⟨g,3,none⟩=some (.slice m.aR m.ro.length m.cR)/\w.cell? ⟨g,4,none⟩=some (.slice m.aS m.nS m.cS)/\w.cell? ⟨g,5,none⟩=some (.slice m.aE m.ev.length m.cE)/\w.cell? ⟨g,6,none⟩=some (.slice m.aG m.gu.length m.cG)/\w.cell? ⟨g,7,none⟩=some (.slice m.aM m.mi.length m.cM)/\w.cell? ⟨g,8,none⟩=some (.slice m.aD m.so.length m.cD)/\w.cell? ⟨g,9,none⟩=some (.slice m.aO m.nO m.cO):=by
 refine ⟨?_,?_,?_,?_,?_,?_,?_,?_,?_,?_⟩<;>rw[h.cell]<;>rfl
theorem scells {w:World} {g:Nat} {s:SC} (h:Blk w g 134 (sA s)):w.cell? ⟨g,0,none⟩=some (.slice s.aV s.nV s.cV)/\w.cell? ⟨g,1,none⟩=some (.int .i64 s.op)/\w.cell? ⟨g,2,none⟩=some (.int .i64 s.dn)/\w.cell? ⟨g,3,none⟩=some (.slice s.aD s.did.length s.cD)/\w.cell? ⟨g,4,none⟩=some (.slice s.aC s.cnt.length s.cC):=by
 refine ⟨?_,?_,?_,?_,?_⟩<;>rw[h.cell]<;>rfl
def comUp (m:MC) (s:SC) (j:Nat):Bool:=(List.range j).any fun i=>match m.mi[i]? with
 | some x=>x.fin && hasB s.dn i
 | none=>false
def com (m:MC) (s:SC):Bool:=comUp m s m.mi.length
theorem comUp_succ {m:MC} {s:SC} {j:Nat} {x:MiC} (h:m.mi[j]?=some x):comUp m s (j+1)=(comUp m s j || (x.fin && hasB s.dn j)):=by
 unfold comUp;rw[List.range_succ,List.any_append];simp[h]
theorem comUp_true {m:MC} {s:SC} {j:Nat} {x:MiC} (h:m.mi[j]?=some x) (hx:(x.fin && hasB s.dn j)=true):com m s=true:=by
 unfold com comUp;rw[List.any_eq_true];refine ⟨j,List.mem_range.2 (List.getElem?_eq_some_iff.1 h).1,?_⟩;rw[h];exact hx
def atV (l:List Int) (i:Int):Int:=if 0<=i then l.getD i.toNat 0 else 0
theorem hasB_zero (i:Int):hasB 0 i=false:=by unfold hasB;simp
theorem refCom_any (w:World) (m:MC) (s:SC) (hG:Good w m s):Calls Tryz.prog 101 #[.agg (mA m),.agg (sA s)] w fun e w'=>e=.returned (.bool (com m s))/\Chg (fun _=>False) w w':=by
 have hlen:=hG.lens.2.2.2.2.2.2.2.1;unfold maxLen at hlen;have hb:=Boxes.new w m s;have hC0:=((Chg.refl (fun _=>False) w).alloc (.cells (mA m) 32)).alloc (.cells (sA s) 134);have HG:=zI hG;unfold mA sA;go_enter Tryz.func101,Tryz.ntmps101;go_wp2_with fail
 obtain ⟨w1,hw1⟩:∃ w1,w1=(w.alloc (.cells (mA m) 32)).alloc (.cells (sA s) 134):=⟨_,rfl⟩;rw[<-hw1] at hb hC0;unfold mA sA at hw1;rw[<-hw1];clear hw1;have HB:=zI hb;have HC0:=zI hC0;clear hb hC0 hG;obtain ⟨k,hk⟩:∃ k,k=w.heap.size+1:=⟨_,rfl⟩;obtain ⟨g,hg⟩:∃ g,g=w.heap.size:=⟨_,rfl⟩;rw[<-hk,<-hg] at HB;rw[<-hk,<-hg];clear hk hg;have HD:=zI HG.out.dnR;go_loopw [5] (fun i wr=>∃ j:Nat,j<=m.mi.length/\i=.int .i64 j/\Hid (comUp m s j=false)/\Hid (Chg (fun _=>False) w1 wr)) (fun i _=>m.mi.length - (intOf i).toNat)
 case atStart=>exact ⟨0,Nat.zero_le _,rfl,zI rfl,Chg.refl _ _⟩
 case round=>
  obtain ⟨j,hj,rfl,hU,hC⟩:=hrel;have hBr:=HB.out.later hC.out;obtain ⟨-,-,-,-,-,-,-,e7,-,-⟩:=mcells hBr.m;obtain ⟨-,-,f2,-,-⟩:=scells hBr.s;by_cases hlt:j < m.mi.length
  ·obtain ⟨x,hx⟩:∃ x,m.mi[j]?=some x:=⟨_,gG hlt⟩;obtain ⟨b1,o1,hA1,hb1,hc⟩:=row_at (f:=miC) (C:=5) (fun _=>rfl) (by omega) (HG.out.mi.later (Ct HC0.out hC.out) (fun _ h=>h.elim)) hx;have c4:=hc 4 _ rfl;rw[hA1] at e7 |-;clear hc;have hs:=zI (comUp_succ (s:=s) hx);rw[hU.out,Bool.false_or] at hs;have hyes:=zI (fun h=>comUp_true (s:=s) hx h);clear hx hA1;obtain ⟨fb,hfb⟩:∃ fb,fb=x.fin:=⟨_,rfl⟩;rw[<-hfb] at hs hyes c4;clear hfb;obtain ⟨hv,hhv⟩:∃ hv,hv=hasB s.dn j:=⟨_,rfl⟩;rw[<-hhv] at hs hyes;replace hhv:=zI hhv;clear hBr;cases fb with
   | false=>
    rw[Bool.false_and] at hs;go_wp2
    go_roundw
    case rel=>exact ⟨j+1,by omega,by go_num,hs,hC⟩
    case measure=>(simp[intOf]<;>omega)
   | true=>
    rw[Bool.true_and] at hs hyes;cases hv with
    | false=>
     go_wp2_with (go_at_call 99;refine (refHas_any _ _ _ HD.out).mono ?_;rintro e w' ⟨rfl,rfl⟩;rw[<-hhv.out])
     go_roundw
     case rel=>exact ⟨j+1,by omega,by go_num,hs,hC⟩
     case measure=>(simp[intOf]<;>omega)
    | true=>
     have hyes2:=zI (hyes.out rfl);clear hyes;go_wp2_with (go_at_call 99;refine (refHas_any _ _ _ HD.out).mono ?_;rintro e w' ⟨rfl,rfl⟩;rw[<-hhv.out])
     go_ret;exact ⟨by rw[hyes2.out];rfl,Ct HC0.out hC.out⟩
  ·obtain rfl:j=m.mi.length:=by omega
   have hno:Hid (com m s=false):=hU;clear hU hBr f2;go_wp2
   go_ret;exact ⟨by rw[hno.out];rfl,Ct HC0.out hC.out⟩
def evAt (m:MC) (e:Int):Option EvC:=if 0<=e then m.ev[e.toNat]? else none
def roAt (m:MC) (e:Int):Option RoC:=if 0<=e then m.ro[e.toNat]? else none
def ofB (m:MC) (r u:Int):Bool:=match roAt m r with
 | some x=>decide (0<=u/\u < m.nU) && hasB x.us u
 | none=>false
theorem evAt_in {m:MC} {e:Int} (h:0<=e/\e < m.ev.length):∃ x,evAt m e=some x/\m.ev[e.toNat]?=some x:=by
 refine ⟨m.ev[e.toNat]'(by omega),?_,gG (by omega)⟩;unfold evAt;rw[if_pos h.1];exact gG (by omega)
theorem evAt_out {m:MC} {e:Int} (h:¬ (0<=e/\e < m.ev.length)):evAt m e=none:=by
 unfold evAt;split
 ·rw[List.getElem?_eq_none (by omega)]
 ·rfl
theorem roAt_in {m:MC} {e:Int} (h:0<=e/\e < m.ro.length):∃ x,roAt m e=some x/\m.ro[e.toNat]?=some x:=by
 refine ⟨m.ro[e.toNat]'(by omega),?_,gG (by omega)⟩;unfold roAt;rw[if_pos h.1];exact gG (by omega)
theorem roAt_out {m:MC} {e:Int} (h:¬ (0<=e/\e < m.ro.length)):roAt m e=none:=by
 unfold roAt;split
 ·rw[List.getElem?_eq_none (by omega)]
 ·rfl
theorem had_any (w:World) (m:MC) (s:SC) (e u:Int) (hG:Good w m s):Calls Tryz.prog 100 #[.agg (sA s),.int .i64 e,.int .i64 u] w fun r w'=>r=.returned (.bool (hasB (atV s.did e) u))/\Chg (fun _=>False) w w':=by
 have hlens:=hG.lens2;unfold maxLen at hlens;obtain ⟨-,hnD,-⟩:=hlens;have HC:=zI ((Chg.refl (fun _=>False) w).alloc (.cells (sA s) 134));unfold sA at HC;unfold sA;by_cases h0:0<=e/\e < s.did.length
 ·obtain ⟨k,rfl⟩:∃ k:Nat,e=k:=⟨e.toNat,by omega⟩;have hk:k < s.did.length:=by omega
  have hd:Hid (decide ((0:Int)<=(k:Int)/\(k:Int) < (s.did.length:Int))=true):=by show _=_;rw[dT];exact h0
  obtain ⟨b,o,hA,hb2,hc⟩:=row_at (f:=inC) (C:=1) (fun _=>rfl) (by omega) hG.did (gG hk);have c1:=fun ob=>World.cell?_alloc_lt w ob _ hb2 |>.trans (hc 0 _ rfl)
  rw[Nat.mul_one,Nat.add_zero] at c1;rw[hA] at HC |-;have hv:Hid (atV s.did k=s.did[k]):=by show _=_;unfold atV;rw[if_pos (by omega),List.getD_eq_getElem?_getD,Int.toNat_natCast,gG hk];rfl
  have HR:=zI (hG.didR _ (List.getElem_mem hk));rw[hv.out];clear hG hc hA;obtain ⟨y,hy⟩:∃ y,y=s.did[k]:=⟨_,rfl⟩;rw[<-hy] at c1 HR |-;clear hy hv;go_enter Tryz.func100,Tryz.ntmps100;go_wp2_with (first | (go_at_call 123;refine (in_any _ _ _).mono ?_;rintro e w' ⟨rfl,rfl⟩;rw[hd.out]) | (go_at_call 99;refine (refHas_any _ _ _ HR.out).mono ?_;rintro e w' ⟨rfl,rfl⟩))
  go_ret;exact ⟨rfl,HC.out⟩
 ·have hv:atV s.did e=0:=by
   unfold atV;split
   ·rw[List.getD_eq_getElem?_getD,List.getElem?_eq_none (by omega)];rfl
   ·rfl
  rw[hv,hasB_zero];have hd:Hid (decide ((0:Int)<=e/\e < (s.did.length:Int))=false):=by show _=_;rw[dF];exact h0
  clear hG hv h0;go_enter Tryz.func100,Tryz.ntmps100;go_wp2_with (go_at_call 123;refine (in_any _ _ _).mono ?_;rintro e w' ⟨rfl,rfl⟩;rw[hd.out])
  go_ret;exact ⟨rfl,HC.out⟩
structure KW (w0:World) where
 w:World
 h:Chg (fun _=>False) w0 w
instance kwThere (w0:World):Nonempty (KW w0):=⟨⟨w0,Chg.refl _ _⟩⟩
theorem wp_region_kept {P:Program} {id:Nat} {Q:Exit->Act->World->Prop} {a:Act} {w:World} {l:List Oper} (w0:World) (hw:Chg (fun _=>False) w0 w) (hm:P.follows .mixedOrders=true) (hB:Region.lexB .any l.toArray=true)
  (h:wpQuiet P l.toArray (fun w'=>∃ n:KW w0,w'=n.w) (fun a'=>∀ w',(∃ n:KW w0,w'=n.w)->Q .normal a' w') l a):(Code.region id l.toArray true).wp P Q a w:=
 wp_region_quiet (C:=fun w'=>∃ n:KW w0,w'=n.w) hm hB ⟨⟨{ w with drawn:=w.drawn+1 },⟨hw.os,hw.tape,hw.output,hw.size,hw.block⟩⟩,rfl⟩ (by simpa using h)
theorem kept_cell {w0:World} {p:Addr} {u:Value} (h:w0.cell? p=some u) (n:KW w0):n.w.cell? p=some u:=keep_cell n.h (fun _ h=>h) h
theorem kept_call {w0:World} {f:FuncId} {args:Array Value} {v:Value} {n:KW w0} (h:Calls Tryz.prog f args n.w fun e w'=>e=.returned v/\Chg (fun _=>False) n.w w'):Calls Tryz.prog f args n.w fun e w''=>e=.returned v/\∃ m:KW w0,w''=m.w:=
 h.mono fun _ w' ⟨he,hc⟩=>⟨he,⟨w',Ct n.h hc⟩,rfl⟩
theorem kept_same {w0:World} {f:FuncId} {args:Array Value} {v:Value} {n:KW w0} (h:Calls Tryz.prog f args n.w fun e w'=>e=.returned v/\n.w=w'):Calls Tryz.prog f args n.w fun e w''=>e=.returned v/\∃ m:KW w0,w''=m.w:=
 h.mono fun _ _ ⟨he,hc⟩=>⟨he,n,hc.symm⟩
def freeB (m:MC) (s:SC) (e u:Int):Bool:=match evAt m e with
 | some x=>!com m s && (decide (x.stage < m.nS) && hasB s.op x.stage) && ofB m x.role u && (decide (x.times<=0) || decide (atV s.cnt e < x.times))
 | none=>false
def apX (s:SC) (e u:Int) (x:Int × Int):Bool:=(x.1 ==e && hasB (atV s.did x.2) u) || (x.2 ==e && hasB (atV s.did x.1) u)
def apB (m:MC) (s:SC) (e u:Int):Bool:=m.so.any (apX s e u)
def enB (m:MC) (s:SC) (e u:Int):Bool:=freeB m s e u && !apB m s e u
theorem any_snoc {α:Type} (f:α->Bool) (l:List α) (x:α):(l++[x]).any f=(l.any f || f x):=by simp
theorem take_get {α:Type} {l:List α} {j:Nat} {x:α} (h:l[j]?=some x):l.take (j+1)=l.take j++[x]:=by
 obtain ⟨h1,h2⟩:=List.getElem?_eq_some_iff.1 h;rw[List.take_succ_eq_append_getElem h1,h2]
theorem any_get {α:Type} {f:α->Bool} {l:List α} {j:Nat} {x:α} (h:l[j]?=some x) (hx:f x=true):l.any f=true:=by
 rw[List.any_eq_true];exact ⟨x,List.mem_of_getElem? h,hx⟩
end
end Go.Proofs.YthohgagkjnbkbaaGreat
