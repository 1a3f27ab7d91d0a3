/- FragTrue, part 21: FrWrites FrCheckM. Each theorem says what a function does, or a plain fact, under its own premises alone. -/
import Derived.Test.YthohgagkjnbkbaaGreatP20
set_option maxRecDepth 100000
set_option maxHeartbeats 16000000
namespace Go.Proofs.YthohgagkjnbkbaaGreat
section
open Go.RowKit
def wrOk (x:EvC):Prop:=0<=x.times/\x.times<=3/\(x.times=0->x.sn=0)
def wrS (l:List EvC):Int:=(l.map fun x=>x.times * (x.sn:Int)).sum
theorem wrS_take {l:List EvC} {j:Nat} {x:EvC} (h:l[j]?=some x):wrS (l.take (j+1))=wrS (l.take j)+x.times * (x.sn:Int):=by
 obtain ⟨hk,rfl⟩:=List.getElem?_eq_some_iff.1 h;rw[List.take_succ_eq_append_getElem hk];unfold wrS;rw[List.map_append,List.sum_append];simp only[List.map_cons,List.map_nil,List.sum_cons,List.sum_nil,Int.add_zero]
theorem ok_take {l:List EvC} {j:Nat} {x:EvC} (h:l[j]?=some x) (h1:∀ y ∈ l.take j,wrOk y) (h2:wrOk x):∀ y ∈ l.take (j+1),wrOk y:=by
 obtain ⟨hk,rfl⟩:=List.getElem?_eq_some_iff.1 h;rw[List.take_succ_eq_append_getElem hk];intro y hy;rcases List.mem_append.1 hy with hy | hy
 ·exact h1 y hy
 ·rw[List.mem_singleton.1 hy];exact h2
theorem writes_any (w:World) (A:Option Addr) (c:Nat) (l:List EvC) (hl:l.length<=4000000) (hs:∀ x ∈ l,x.sn<=4000000) (hr:Rd w w.heap.size A (l.flatMap evC)):Calls Tryz.prog 20 #[.slice A l.length c] w fun e w'=>(∃ n:Int,e=.returned (.int .i64 n)/\(0<=n->n=wrS l/\∀ x ∈ l,wrOk x))/\w=w':=by
 replace hr:=zI hr;replace hs:=zI hs;go_enter Tryz.func20,Tryz.ntmps20;go_wp2_with fail
 go_loopw [4,3,5] (fun x v _ wr=>∃ (j:Nat) (n:Int),j<=l.length/\x=.int .i64 j/\v=.int .i64 n/\0<=n/\n<=12000000 * (j:Int)/\Hid (n=wrS (l.take j)/\∀ y ∈ l.take j,wrOk y)/\w=wr) (fun x _ _ _=>l.length - (intOf x).toNat)
 case atStart=>exact ⟨0,0,Nat.zero_le _,rfl,rfl,Int.le_refl _,by omega,zI ⟨by simp[wrS],by simp⟩,rfl⟩
 case round=>
  obtain ⟨j,n,hj,rfl,rfl,hn0,hn1,hI,rfl⟩:=hrel;by_cases hlt:j < l.length
  ·obtain ⟨x,hx⟩:∃ x,l[j]?=some x:=⟨_,gG hlt⟩;obtain ⟨b1,o1,rfl,_,hc⟩:=row_at (f:=evC) (C:=5) (fun _=>rfl) (by omega) hr.out hx;have c3:=hc 3 _ rfl;have c4:=hc 4 _ rfl;have hsx:=hs.out x (List.mem_of_getElem? hx);have hst:=zI (wrS_take hx);have hok:=zI (fun h=>ok_take hx hI.out.2 h);obtain ⟨t,ht⟩:∃ t,t=x.times:=⟨_,rfl⟩;obtain ⟨q,hq⟩:∃ q,q=x.sn:=⟨_,rfl⟩;have hwo:Hid (0<=t->t<=3->(t=0->q=0)->wrOk x):=by show _;rw[ht,hq];exact fun a b c=>⟨a,b,c⟩
   rw[<-ht] at hst c4;rw[<-hq] at hst c3 hsx;clear hc hx ht hq;by_cases h0:t < 0
   ·have d0:decide (t < 0)=true:=by simpa using h0
    clear h0;go_wp2
    go_ret;exact ⟨⟨_,rfl,fun h=>by omega⟩,rfl⟩
   have d0:decide (t < 0)=false:=by simpa using h0
   by_cases h3:3 < t
   ·have d3:decide (3 < t)=true:=by simpa using h3
    clear h0 h3;go_wp2
    go_ret;exact ⟨⟨_,rfl,fun h=>by omega⟩,rfl⟩
   have d3:decide (3 < t)=false:=by simpa using h3
   have hm0:0<=t * (q:Int):=Int.mul_nonneg (by omega) (by omega);have hm1:t * (q:Int)<=12000000:=by
    have:t * (q:Int)<=3 * (q:Int):=Int.mul_le_mul_of_nonneg_right (by omega) (by omega);omega
   have hw1:IntKind.i64.wrap (t * (q:Int))=t * (q:Int):=by rw[IntKind.wrap_i64];omega
   have hw2:IntKind.i64.wrap (n+t * (q:Int))=n+t * (q:Int):=by rw[IntKind.wrap_i64];omega
   by_cases hz:t=0
   ·subst hz;by_cases hq0:q=0
    ·subst hq0;have hok2:Hid (∀ y ∈ l.take (j+1),wrOk y):=hok.out (hwo.out (by omega) (by omega) (fun _=>rfl));have hst2:Hid (n=wrS (l.take (j+1))):=by show _=_;rw[hst.out,<-hI.out.1];omega
     clear hm0 hm1 hw1 hw2 d0 d3 h0 h3;go_wp2_with fail
     go_roundw
     case rel=>exact ⟨j+1,n,by omega,by go_num,by go_num,hn0,by omega,zI ⟨hst2.out,hok2.out⟩,trivial⟩
     case measure=>(simp[intOf]<;>omega)
    ·have dq:decide ((0:Int) < (q:Int))=true:=by rw[dT];omega
     have dqN:decide (0 < q)=true:=by rw[dT];omega
     clear hm0 hm1 hw1 hw2 d0 d3 h0 h3;go_wp2
     go_ret;exact ⟨⟨_,rfl,fun h=>by omega⟩,rfl⟩
   ·have dz:(t ==0)=false:=by rw[bF];exact hz
    have hok2:Hid (∀ y ∈ l.take (j+1),wrOk y):=hok.out (hwo.out (by omega) (by omega) (fun h=>absurd h hz));have hst2:Hid (n+t * (q:Int)=wrS (l.take (j+1))):=by show _=_;rw[hst.out,<-hI.out.1]
    clear hz h0 h3;obtain ⟨y,hy⟩:∃ y,y=t * (q:Int):=⟨_,rfl⟩;rw[<-hy] at hm0 hm1 hw1 hw2 hst2;go_wp2_with fail
    go_roundw
    case rel=>exact ⟨j+1,n+y,by omega,by go_num,by go_num,by omega,by omega,zI ⟨hst2.out,hok2.out⟩,trivial⟩
    case measure=>(simp[intOf]<;>omega)
  ·obtain rfl:j=l.length:=by omega
   have hI2:Hid (n=wrS l/\∀ y ∈ l,wrOk y):=by have:=hI.out;rw[List.take_length] at this;exact this
   clear hI;go_wp2
   go_ret;exact ⟨⟨_,rfl,fun _=>hI2.out⟩,rfl⟩
structure XP (w:World) (m:MC) (X:MX):Prop where
 xo:XO w m X
 ordN:m.nO=X.ord.length
 ord:Rd w w.heap.size m.aO (X.ord.flatMap orC)
 ordR:∀ z ∈ X.ord,inR z.2
 ordL:X.ord.length<=4000000
 iniN:m.nI=X.ini.length
 ini:Rd w w.heap.size m.aI (intsV X.ini)
theorem XP.later {w w':World} {m:MC} {X:MX} (h:XP w m X) (hc:Chg (fun _=>False) w w'):XP w' m X:=
 ⟨h.xo.later hc,h.ordN,h.ord.later hc (fun _ h=>h.elim),h.ordR,h.ordL,h.iniN,h.ini.later hc (fun _ h=>h.elim)⟩
structure CkOk (m:MC) (X:MX):Prop where
 nA:m.nA<=5
 nI:m.nI=m.nA
 nU:m.nU<=4
 ro:m.ro.length<=4
 nS:m.nS<=8
 ev:m.ev.length<=6
 gu:m.gu.length<=12
 mi:m.mi.length<=8
 so:m.so.length<=6
 ok:NamedOk m X
 wr:∀ x ∈ m.ev,wrOk x
 wrN:wrS m.ev<=4
theorem wrS_nonneg:∀ {l:List EvC},(∀ x ∈ l,wrOk x)->0<=wrS l
 | [],_=>by simp[wrS]
 | x::l,h=>by
  have h1:=wrS_nonneg (l:=l) (fun y hy=>h y (List.mem_cons_of_mem _ hy));have h2:0<=x.times * (x.sn:Int):=Int.mul_nonneg (h x (List.mem_cons_self ..)).1 (by omega);unfold wrS at h1 |-;simp only[List.map_cons,List.sum_cons];omega
theorem wr_sn:∀ {l:List EvC},(∀ x ∈ l,wrOk x)->wrS l<=4->∀ x ∈ l,x.sn<=4
 | [],_,_=>by simp
 | x::l,h,hs=>by
  have h1:=wrS_nonneg (l:=l) (fun y hy=>h y (List.mem_cons_of_mem _ hy));obtain ⟨h2,h3,h4⟩:=h x (List.mem_cons_self ..);have h5:0<=x.times * (x.sn:Int):=Int.mul_nonneg h2 (by omega);have hs':x.times * (x.sn:Int)+wrS l<=4:=by simpa [wrS] using hs
  intro y hy;rcases List.mem_cons.1 hy with rfl | hy
  ·by_cases h0:y.times=0
   ·rw[h4 h0];omega
   ·have:(y.sn:Int)<=y.times * (y.sn:Int):=by
     have:=Int.mul_le_mul_of_nonneg_right (show (1:Int)<=y.times by omega) (show (0:Int)<=(y.sn:Int) by omega);omega
    omega
  ·exact wr_sn (fun y hy=>h y (List.mem_cons_of_mem _ hy)) (by omega) y hy
theorem CkOk.xok {w:World} {m:MC} {X:MX} (h:CkOk m X) (p:XP w m X):XOK w m X:=
 ⟨p.xo.mo,p.xo.stN,p.xo.st,p.xo.evN,fun i e l h1 h2=>let h3:=p.xo.ev i e l h1 h2;⟨h3.1,by have:=wr_sn h.wr h.wrN e (List.mem_of_getElem? h1);have:=h3.1;omega,h3.2.2⟩,p.xo.guN,fun i e l h1 h2=>let h3:=p.xo.gu i e l h1 h2;⟨h3.1,by have:=(h.ok.gu e (List.mem_of_getElem? h1)).2.2;have:=h3.1;omega,h3.2.2⟩,
  p.xo.miN,fun i e l h1 h2=>let h3:=p.xo.mi i e l h1 h2;⟨h3.1,by have:=(h.ok.mi e (List.mem_of_getElem? h1)).2.2;have:=h3.1;omega,h3.2.2⟩,p.ordN,p.ord,p.iniN,p.ini,
  ⟨by have:=p.xo.stN;have:=h.nS;omega,by have:=h.ev;omega,by have:=h.gu;omega,by have:=h.mi;omega,p.ordL,by have:=p.iniN;have:=h.nI;have:=h.nA;omega,by have:=h.nA;omega,by have:=h.nU;omega,by have:=h.ro;omega,by have:=h.so;omega⟩⟩
theorem checkM_any (w:World) (m:MC) (X:MX) (hX:XP w m X):Calls Tryz.prog 6 #[.agg (mA m)] w fun e w'=>(∃ b,e=.returned (.bool b)/\(b=true->CkOk m X))/\Chg (fun _=>False) w w':=by
 have hb:=Blk.new w 32 (mA m);have C0:=zI ((Chg.refl (fun _=>False) w).alloc (.cells (mA m) 32));have hX1:=hX.later C0.out;obtain ⟨w1,hw1⟩:∃ w1,w1=w.alloc (.cells (mA m) 32):=⟨_,rfl⟩;rw[<-hw1] at hb C0 hX1;have HM:=zI (fun (w':World) (h:Chg (fun _=>False) w1 w')=>mcells (hb.chg h (fun h=>h)));have HX:=zI (fun (w':World) (h:Chg (fun _=>False) w1 w')=>hX1.later h);clear hb hX hX1;unfold mA at hw1 |-;by_cases h0:5 < m.nA
 ·have d0:decide (5 < (m.nA:Int))=true:=by rw[dT];omega
  have d0N:decide (5 < m.nA)=true:=by rw[dT];omega
  clear h0;go_enter Tryz.func6,Tryz.ntmps6;go_wp2
  go_ret;exact ⟨⟨_,rfl,nov⟩,by rw[<-hw1];exact C0.out⟩
 have d0:decide (5 < (m.nA:Int))=false:=by rw[dF];omega
 have d0N:decide (5 < m.nA)=false:=by rw[dF];omega
 by_cases h1:m.nI=m.nA
 case neg=>
  have d1:((m.nI:Int) !=(m.nA:Int))=true:=by simp;omega
  have d1e:((m.nI:Int) ==(m.nA:Int))=false:=by simp;omega
  have d1N:(m.nI !=m.nA)=true:=by simp;omega
  have d1Ne:(m.nI ==m.nA)=false:=by simp;omega
  clear h0 h1;go_enter Tryz.func6,Tryz.ntmps6;go_wp2
  go_ret;exact ⟨⟨_,rfl,nov⟩,by rw[<-hw1];exact C0.out⟩
 have d1:((m.nI:Int) !=(m.nA:Int))=false:=by simp;omega
 have d1e:((m.nI:Int) ==(m.nA:Int))=true:=by simp;omega
 have d1N:(m.nI !=m.nA)=false:=by simp;omega
 have d1Ne:(m.nI ==m.nA)=true:=by simp;omega
 by_cases h2:4 < m.nU
 ·have d2:decide (4 < (m.nU:Int))=true:=by rw[dT];omega
  have d2N:decide (4 < m.nU)=true:=by rw[dT];omega
  clear h0 h1 h2;go_enter Tryz.func6,Tryz.ntmps6;go_wp2
  go_ret;exact ⟨⟨_,rfl,nov⟩,by rw[<-hw1];exact C0.out⟩
 have d2:decide (4 < (m.nU:Int))=false:=by rw[dF];omega
 have d2N:decide (4 < m.nU)=false:=by rw[dF];omega
 by_cases h3:4 < m.ro.length
 ·have d3:decide (4 < (m.ro.length:Int))=true:=by rw[dT];omega
  have d3N:decide (4 < m.ro.length)=true:=by rw[dT];omega
  clear h0 h1 h2 h3;go_enter Tryz.func6,Tryz.ntmps6;go_wp2
  go_ret;exact ⟨⟨_,rfl,nov⟩,by rw[<-hw1];exact C0.out⟩
 have d3:decide (4 < (m.ro.length:Int))=false:=by rw[dF];omega
 have d3N:decide (4 < m.ro.length)=false:=by rw[dF];omega
 by_cases h4:8 < m.nS
 ·have d4:decide (8 < (m.nS:Int))=true:=by rw[dT];omega
  have d4N:decide (8 < m.nS)=true:=by rw[dT];omega
  clear h0 h1 h2 h3 h4;go_enter Tryz.func6,Tryz.ntmps6;go_wp2
  go_ret;exact ⟨⟨_,rfl,nov⟩,by rw[<-hw1];exact C0.out⟩
 have d4:decide (8 < (m.nS:Int))=false:=by rw[dF];omega
 have d4N:decide (8 < m.nS)=false:=by rw[dF];omega
 by_cases h5:6 < m.ev.length
 ·have d5:decide (6 < (m.ev.length:Int))=true:=by rw[dT];omega
  have d5N:decide (6 < m.ev.length)=true:=by rw[dT];omega
  clear h0 h1 h2 h3 h4 h5;go_enter Tryz.func6,Tryz.ntmps6;go_wp2
  go_ret;exact ⟨⟨_,rfl,nov⟩,by rw[<-hw1];exact C0.out⟩
 have d5:decide (6 < (m.ev.length:Int))=false:=by rw[dF];omega
 have d5N:decide (6 < m.ev.length)=false:=by rw[dF];omega
 by_cases h6:12 < m.gu.length
 ·have d6:decide (12 < (m.gu.length:Int))=true:=by rw[dT];omega
  have d6N:decide (12 < m.gu.length)=true:=by rw[dT];omega
  clear h0 h1 h2 h3 h4 h5 h6;go_enter Tryz.func6,Tryz.ntmps6;go_wp2
  go_ret;exact ⟨⟨_,rfl,nov⟩,by rw[<-hw1];exact C0.out⟩
 have d6:decide (12 < (m.gu.length:Int))=false:=by rw[dF];omega
 have d6N:decide (12 < m.gu.length)=false:=by rw[dF];omega
 by_cases h7:8 < m.mi.length
 ·have d7:decide (8 < (m.mi.length:Int))=true:=by rw[dT];omega
  have d7N:decide (8 < m.mi.length)=true:=by rw[dT];omega
  clear h0 h1 h2 h3 h4 h5 h6 h7;go_enter Tryz.func6,Tryz.ntmps6;go_wp2
  go_ret;exact ⟨⟨_,rfl,nov⟩,by rw[<-hw1];exact C0.out⟩
 have d7:decide (8 < (m.mi.length:Int))=false:=by rw[dF];omega
 have d7N:decide (8 < m.mi.length)=false:=by rw[dF];omega
 by_cases h8:6 < m.so.length
 ·have d8:decide (6 < (m.so.length:Int))=true:=by rw[dT];omega
  have d8N:decide (6 < m.so.length)=true:=by rw[dT];omega
  clear h0 h1 h2 h3 h4 h5 h6 h7 h8;go_enter Tryz.func6,Tryz.ntmps6;go_wp2
  go_ret;exact ⟨⟨_,rfl,nov⟩,by rw[<-hw1];exact C0.out⟩
 have d8:decide (6 < (m.so.length:Int))=false:=by rw[dF];omega
 have d8N:decide (6 < m.so.length)=false:=by rw[dF];omega
 have HL:Hid (m.nA<=5/\m.nI=m.nA/\m.nU<=4/\m.ro.length<=4/\m.nS<=8/\m.ev.length<=6/\m.gu.length<=12/\m.mi.length<=8/\m.so.length<=6):=⟨by omega,by omega,by omega,by omega,by omega,by omega,by omega,by omega,by omega⟩;have HN:=zI (named_any w1 m X (HX.out _ (Chg.refl _ _)).xo (by omega) ⟨by have:=(HX.out _ (Chg.refl _ _)).xo.stN;omega,by omega,by omega,by omega,by omega,by omega⟩);unfold mA at HN;clear h0 h1 h2 h3 h4 h5 h6 h7 h8;go_enter Tryz.func6,Tryz.ntmps6;go_wp2_with fail
 rw[<-hw1];clear hw1 d0 d0N d1 d1e d1N d1Ne d2 d2N d3 d3N d4 d4N d5 d5N d6 d6N d7 d7N d8 d8N;go_at_call 19
 refine HN.out.mono ?_;rintro e w2 ⟨⟨b,rfl,hb⟩,hC2⟩;have C2:=zI hC2;replace hb:=zI hb;have Z2:=zI (fun (w':World) (h:Chg (fun _=>False) w2 w')=>(Ct C2.out h:Chg (fun _=>False) w1 w'));clear hC2 HN;cases b with
 | false=>
  go_wp2
  go_ret;exact ⟨⟨_,rfl,nov⟩,Ct C0.out C2.out⟩
 | true=>
  have e5:=(HM.out w2 C2.out).2.2.2.2.2.1;have HW:=zI (writes_any w2 m.aE m.cE m.ev (by have:=HL.out;omega) (fun x hx=>by
   obtain ⟨i,hi⟩:=List.getElem?_of_mem hx;obtain ⟨l,hl⟩:∃ l,X.evS[i]?=some l:=⟨_,gG (by rw[(HX.out w2 C2.out).xo.evN];exact (List.getElem?_eq_some_iff.1 hi).1)⟩;have:=(HX.out w2 C2.out).xo.ev i x l hi hl;omega) (HX.out w2 C2.out).xo.mo.ev)
  go_wp2_with fail
  clear e5;go_at_call 20
  refine HW.out.mono ?_;rintro e w3 ⟨⟨n,rfl,hn⟩,rfl⟩;replace hn:=zI hn;clear HW;by_cases h0:n < 0
  ·have g0:decide (n < 0)=true:=by rw[dT];exact h0
   clear h0;go_wp2
   go_ret;exact ⟨⟨_,rfl,nov⟩,Ct C0.out C2.out⟩
  ·have g0:decide (n < 0)=false:=by rw[dF];exact h0
   by_cases h4:4 < n
   ·have g4:decide (4 < n)=true:=by rw[dT];exact h4
    clear h0 h4;go_wp2
    go_ret;exact ⟨⟨_,rfl,nov⟩,Ct C0.out C2.out⟩
   ·have g4:decide (4 < n)=false:=by rw[dF];exact h4
    have HK:Hid (CkOk m X):=by
     obtain ⟨h1,h2,h3,h5,h6,h7,h8,h9,h10⟩:=HL.out;obtain ⟨k1,k2⟩:=hn.out (by omega);exact ⟨h1,h2,h3,h5,h6,h7,h8,h9,h10,(by first | exact hb.out rfl | exact hb.out trivial),k2,by omega⟩
    have HP:=zI (parents_any w2 m X (HK.out.xok (HX.out w2 C2.out)));unfold mA at HP;obtain ⟨m0,m1,m2,m3,m4,m5,m6,m7,m8,m9⟩:=HM.out w2 C2.out;clear h0 h4 hn hb;go_wp2_with fail
    clear m0 m1 m2 m3 m4 m5 m6 m7 m8 m9 g0 g4;go_at_call 22
    refine HP.out.mono ?_;rintro e w4 ⟨pA,pc,rfl,hR4,hC4⟩;have C4:=zI (Z2.out w4 hC4);have Z4:=zI (fun (w':World) (h:Chg (fun _=>False) w4 w')=>(Ct C4.out h:Chg (fun _=>False) w1 w'));have HCi:=zI (circle_any w4 pA pc (par X) (by have:=HL.out;have h1:(par X).length=X.st.length:=(by simp[par]);have:=(HX.out w2 C2.out).xo.stN;omega) hR4);obtain ⟨ci,hci⟩:∃ ci,ci=circF (par X):=⟨_,rfl⟩;rw[<-hci] at HCi;clear hR4 hC4 HP hci;go_wp2_with fail
    go_at_call 21
    refine HCi.out.mono ?_;rintro e w5 ⟨rfl,rfl⟩;clear HCi;by_cases hc0:0<=ci
    ·have g0:decide (0<=ci)=true:=by rw[dT];exact hc0
     clear hc0;go_wp2
     go_ret;exact ⟨⟨_,rfl,nov⟩,Ct C0.out C4.out⟩
    ·have g0:decide (0<=ci)=false:=by rw[dF];exact hc0
     have HCo:=zI (consts_any w4 m X none 0 [] (HK.out.xok (HX.out w4 C4.out)) (by simp) (fun h=>by simp at h));unfold mA at HCo;obtain ⟨m0,m1,m2,m3,m4,m5,m6,m7,m8,m9⟩:=HM.out w4 C4.out;clear hc0;go_wp2_with fail
     clear m0 m1 m2 m3 m4 m5 m6 m7 m8 m9 g0;go_at_call 8
     refine HCo.out.mono ?_;rintro e w6 ⟨v6,rfl,cA,cc,cq,rfl,-,-,hC6⟩;have C6:=zI (Z4.out w6 hC6);have Z6:=zI (fun (w':World) (h:Chg (fun _=>False) w6 w')=>(Ct C6.out h:Chg (fun _=>False) w1 w'));clear hC6 HCo;by_cases hq6:6 < cq.length
     ·have g0:decide ((6:Int) < (cq.length:Int))=true:=by rw[dT];omega
      have g1:decide (6 < cq.length)=true:=by rw[dT];exact hq6
      clear hq6;go_wp2
      go_ret;exact ⟨⟨_,rfl,nov⟩,Ct C0.out C6.out⟩
     ·have g0:decide ((6:Int) < (cq.length:Int))=false:=by rw[dF];omega
      have g1:decide (6 < cq.length)=false:=by rw[dF];exact hq6
      have HO:=zI (order_any w6 m X (HK.out.xok (HX.out w6 C6.out)));unfold mA at HO;obtain ⟨m0,m1,m2,m3,m4,m5,m6,m7,m8,m9⟩:=HM.out w6 C6.out;clear hq6;go_wp2_with fail
      clear m0 m1 m2 m3 m4 m5 m6 m7 m8 m9 g0 g1;go_at_call 23
      refine HO.out.mono ?_;rintro e w7 ⟨ol,ov,er,rfl,hol,hoR,oA,oc,rfl,hoRd,hC7⟩;have C7:=zI (Z6.out w7 hC7);have HS:=zI (same12_any w7 oA m.aO oc m.cO ol X.ord hoRd (HX.out w7 C7.out).ord (by omega) hoR (HX.out w7 C7.out).ordR);have hord:=zI (HX.out w7 C7.out).ordN;rw[<-hord.out] at HS;obtain ⟨m0,m1,m2,m3,m4,m5,m6,m7,m8,m9⟩:=HM.out w7 C7.out;obtain ⟨be,hbe⟩:∃ be,(er ==0)=be:=⟨_,rfl⟩;obtain ⟨bs,hbs⟩:∃ bs,bs=decide (ol=X.ord):=⟨_,rfl⟩;rw[<-hbs] at HS;clear hC7 hoRd HO hbs;cases be with
      | false=>
       go_wp2
       go_ret;exact ⟨⟨_,rfl,nov⟩,Ct C0.out C7.out⟩
      | true=>
       go_wp2_with fail
       go_at_call 24
       refine HS.out.mono ?_;rintro e w8 ⟨rfl,nq,rfl⟩;clear m0 m1 m2 m3 m4 m5 m6 m7 m8 m9 hbe;go_wp2
       go_ret;exact ⟨⟨_,rfl,fun _=>HK.out⟩,(Ct C0.out C7.out).drewN nq⟩
end
end Go.Proofs.YthohgagkjnbkbaaGreat
