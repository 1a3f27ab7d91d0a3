/- FragTrue, part 20: FrNamed. Each theorem says what a function does, or a plain fact, under its own premises alone. -/
import Derived.Test.YthohgagkjnbkbaaGreatP19
set_option maxRecDepth 100000
set_option maxHeartbeats 16000000
namespace Go.Proofs.YthohgagkjnbkbaaGreat
section
open Go.RowKit
structure XO (w:World) (m:MC) (X:MX):Prop where
 mo:MOK w m
 stN:m.nS=X.st.length
 st:Rd w w.heap.size m.aS (X.st.flatMap stC)
 evN:X.evS.length=m.ev.length
 ev:∀ (i:Nat) (e:EvC) (l:List Int),m.ev[i]?=some e->X.evS[i]?=some l->e.sn=l.length/\l.length<=4000000/\Rd w w.heap.size e.sa (intsV l)
 guN:X.guI.length=m.gu.length
 gu:∀ (i:Nat) (g:GuC) (l:List Nm.Inst),m.gu[i]?=some g->X.guI[i]?=some l->g.il=l.length/\l.length<=4000000/\Rd w w.heap.size g.ia (l.flatMap instV7)
 miN:X.miI.length=m.mi.length
 mi:∀ (i:Nat) (g:MiC) (l:List Nm.Inst),m.mi[i]?=some g->X.miI[i]?=some l->g.il=l.length/\l.length<=4000000/\Rd w w.heap.size g.ia (l.flatMap instV7)
theorem XO.later {w w':World} {m:MC} {X:MX} (h:XO w m X) (hc:Chg (fun _=>False) w w'):XO w' m X:=
 ⟨h.mo.later hc,h.stN,h.st.later hc (fun _ h=>h.elim),h.evN,fun i e l h1 h2=>let h3:=h.ev i e l h1 h2;⟨h3.1,h3.2.1,h3.2.2.later hc (fun _ h=>h.elim)⟩,h.guN,fun i e l h1 h2=>let h3:=h.gu i e l h1 h2;⟨h3.1,h3.2.1,h3.2.2.later hc (fun _ h=>h.elim)⟩,
  h.miN,fun i e l h1 h2=>let h3:=h.mi i e l h1 h2;⟨h3.1,h3.2.1,h3.2.2.later hc (fun _ h=>h.elim)⟩⟩
def inB (i:Int) (n:Nat):Bool:=decide (0<=i/\i < (n:Int))
theorem in13_b (w:World) (i:Int) (m:Nat):Calls Tryz.prog 43 #[.int .i64 i,.int .i64 m] w fun e w'=>e=.returned (.bool (inB i m))/\w=w':=in13_any w i m
def roOk (m:MC) (x:RoC):Prop:=0 < x.us/\x.us < 16/\x.us<=allN m.nU
def stOk (m:MC) (x:ByteArray × Int):Prop:=x.2=-1\/inB x.2 m.nS=true
def evOk (m:MC) (x:EvC):Prop:=inB x.role m.ro.length=true/\inB x.stage m.nS=true
def guOk (m:MC) (x:GuC):Prop:=inB x.stage m.nS=true/\(x.event=-1\/inB x.event m.ev.length=true)/\x.il<=64
def miOk (m:MC) (x:MiC):Prop:=inB x.stage m.nS=true/\(x.event=-1\/inB x.event m.ev.length=true)/\x.il<=64
def soOk (m:MC) (x:Int × Int):Prop:=inB x.1 m.ev.length=true/\inB x.2 m.ev.length=true
structure NamedOk (m:MC) (X:MX):Prop where
 ro:∀ x ∈ m.ro,roOk m x
 st:∀ x ∈ X.st,stOk m x
 ev:∀ x ∈ m.ev,evOk m x
 gu:∀ x ∈ m.gu,guOk m x
 mi:∀ x ∈ m.mi,miOk m x
 so:∀ x ∈ m.so,soOk m x
theorem all_take {α:Type} {P:α->Prop} {l:List α} {j:Nat} {x:α} (h:l[j]?=some x) (h1:∀ y ∈ l.take j,P y) (h2:P x):∀ y ∈ l.take (j+1),P y:=by
 obtain ⟨hk,rfl⟩:=List.getElem?_eq_some_iff.1 h;rw[List.take_succ_eq_append_getElem hk];intro y hy;rcases List.mem_append.1 hy with hy | hy
 ·exact h1 y hy
 ·rw[List.mem_singleton.1 hy];exact h2
theorem nov {P:Prop} (h:false=true):P:=by cases h
theorem named_any (w:World) (m:MC) (X:MX) (hX:XO w m X) (hU:m.nU<=40) (hF:X.st.length<=1000/\m.ev.length<=1000/\m.gu.length<=1000/\m.mi.length<=1000/\m.ro.length<=1000/\m.so.length<=1000):
  Calls Tryz.prog 19 #[.agg (mA m)] w fun e w'=>(∃ b,e=.returned (.bool b)/\(b=true->NamedOk m X))/\Chg (fun _=>False) w w':=by
 have hb:=Blk.new w 32 (mA m);have C0:=zI ((Chg.refl (fun _=>False) w).alloc (.cells (mA m) 32));have hX1:=hX.later C0.out;obtain ⟨w1,hw1⟩:∃ w1,w1=w.alloc (.cells (mA m) 32):=⟨_,rfl⟩;rw[<-hw1] at hb C0 hX1;have HM:=zI (fun (w':World) (h:Chg (fun _=>False) w1 w')=>mcells (hb.chg h (fun h=>h)));have HX:=zI (fun (w':World) (h:Chg (fun _=>False) w1 w')=>hX1.later h);have hsn:=zI hX.stN;clear hb hX hX1;obtain ⟨f1,f2,f3,f4,f5,f6⟩:=hF;unfold mA at hw1 |-;go_enter Tryz.func19,Tryz.ntmps19;go_wp2_with fail
 rw[<-hw1];clear hw1;have hC:=zI (Chg.refl (fun _=>False) w1);obtain ⟨ok,hok⟩:∃ ok,ok=true:=⟨_,rfl⟩;have hP:Hid (ok=true->True):=zI (fun _=>trivial);go_loopw [4,3,5] (fun x v _ wr=>∃ (j:Nat) (ok:Bool),j<=m.ro.length/\x=.int .i64 j/\v=.bool ok/\Hid (ok=true->(∀ y ∈ m.ro.take j,roOk m y)/\True)/\Hid (Chg (fun _=>False) w1 wr)) (fun x _ _ _=>m.ro.length - (intOf x).toNat)
 case atStart=>exact ⟨0,ok,Nat.zero_le _,rfl,by rw[hok],zI (fun h=>⟨by simp,hP.out h⟩),hC⟩
 case round=>
  clear hP hC hok;obtain ⟨j,ok,hj,rfl,rfl,hI,hC⟩:=hrel;obtain ⟨e0,e1,e2,e3,e4,e5,e6,e7,e8,e9⟩:=HM.out wr hC.out;by_cases hlt:j < m.ro.length
  ·obtain ⟨x,hx⟩:∃ x,m.ro[j]?=some x:=⟨_,gG hlt⟩;obtain ⟨b1,o1,hA1,_,hc⟩:=row_at (f:=roC) (C:=2) (fun _=>rfl) (by omega) (HX.out wr hC.out).mo.ro hx;have c0:=hc 0 _ rfl;have c1:=hc 1 _ rfl;rw[Nat.add_zero] at c0;rw[hA1] at e3;have hst:=zI (fun h1 h2=>(⟨all_take hx (hI.out h1).1 h2,(hI.out h1).2⟩:(∀ y ∈ m.ro.take (j+1),roOk m y)/\True));clear hx;clear hA1;clear hc;cases ok with
   | false=>
    go_wp2_with fail
    go_roundw
    case rel=>exact ⟨j+1,false,by omega,by go_num,rfl,zI nov,hC⟩
    case measure=>(simp[intOf]<;>omega)
   | true=>
    replace hst:=zI (hst.out rfl);obtain ⟨us,hus⟩:∃ us,us=x.us:=⟨_,rfl⟩;obtain ⟨an,han⟩:∃ an,an=allN m.nU:=⟨_,rfl⟩;have hst2:Hid (decide (0 < us)=true->decide (us < 16)=true->decide (us<=an)=true->(∀ y ∈ m.ro.take (j+1),roOk m y)/\True):=zI (fun h1 h2 h3=>hst.out (by rw[hus] at h1 h2 h3;rw[han] at h3;exact ⟨of_decide_eq_true h1,of_decide_eq_true h2,of_decide_eq_true h3⟩));have HA:=zI (fun w'=>all13_any w' m.nU hU);rw[<-han] at HA;rw[<-hus] at c1;obtain ⟨b1,q1⟩:∃ b,decide (0 < us)=b:=⟨_,rfl⟩;obtain ⟨b2,q2⟩:∃ b,decide (us < 16)=b:=⟨_,rfl⟩;obtain ⟨b3,q3⟩:∃ b,decide (us<=an)=b:=⟨_,rfl⟩;clear hus han hst;cases b1 with
    | false=>
     go_wp2_with fail
     go_roundw
     case rel=>exact ⟨j+1,false,by omega,by go_num,rfl,zI nov,hC⟩
     case measure=>(simp[intOf]<;>omega)
    | true=>
     cases b2 with
     | false=>
      go_wp2_with fail
      go_roundw
      case rel=>exact ⟨j+1,false,by omega,by go_num,rfl,zI nov,hC⟩
      case measure=>(simp[intOf]<;>omega)
     | true=>
      have hst3:=zI (hst2.out q1 q2);go_wp2_with (go_at_call 42;refine (HA.out _).mono ?_;rintro e w' ⟨rfl,rfl⟩)
      go_roundw
      case rel=>exact ⟨j+1,b3,by omega,by go_num,rfl,zI (fun h=>hst3.out (q3.trans h)),hC⟩
      case measure=>(simp[intOf]<;>omega)
  ·obtain rfl:j=m.ro.length:=by omega
   have hP:Hid (ok=true->(∀ y ∈ m.ro,roOk m y)/\True):=zI (fun h=>by have:=hI.out h;rwa [List.take_length] at this);clear hI;go_wp2_with fail
   clear e0 e1 e2 e3 e4 e5 e6 e7 e8 e9;go_loopw [6,3,7] (fun x v _ wr=>∃ (j:Nat) (ok:Bool),j<=X.st.length/\x=.int .i64 j/\v=.bool ok/\Hid (ok=true->(∀ y ∈ X.st.take j,stOk m y)/\(∀ y ∈ m.ro,roOk m y)/\True)/\Hid (Chg (fun _=>False) w1 wr)) (fun x _ _ _=>X.st.length - (intOf x).toNat)
   case atStart=>exact ⟨0,ok,Nat.zero_le _,rfl,rfl,zI (fun h=>⟨by simp,hP.out h⟩),hC⟩
   case round=>
    clear hP hC;obtain ⟨j,ok,hj,rfl,rfl,hI,hC⟩:=hrel;obtain ⟨e0,e1,e2,e3,e4,e5,e6,e7,e8,e9⟩:=HM.out wr hC.out;rw[hsn.out] at e4;by_cases hlt:j < X.st.length
    ·obtain ⟨x,hx⟩:∃ x,X.st[j]?=some x:=⟨_,gG hlt⟩;obtain ⟨b1,o1,hA1,_,hc⟩:=row_at (f:=stC) (C:=2) (fun _=>rfl) (by omega) (HX.out wr hC.out).st hx;have c0:=hc 0 _ rfl;have c1:=hc 1 _ rfl;rw[Nat.add_zero] at c0;rw[hA1] at e4;have hst:=zI (fun h1 h2=>(⟨all_take hx (hI.out h1).1 h2,(hI.out h1).2⟩:(∀ y ∈ X.st.take (j+1),stOk m y)/\(∀ y ∈ m.ro,roOk m y)/\True));clear hx;clear hA1;clear hc;cases ok with
     | false=>
      go_wp2_with fail
      go_roundw
      case rel=>exact ⟨j+1,false,by omega,by go_num,rfl,zI nov,hC⟩
      case measure=>(simp[intOf]<;>omega)
     | true=>
      replace hst:=zI (hst.out rfl);obtain ⟨i,hi⟩:∃ i,i=x.2:=⟨_,rfl⟩;rw[<-hi] at c1;obtain ⟨b1,q1⟩:∃ b,(i ==-1)=b:=⟨_,rfl⟩;have HA:=zI (fun w'=>in13_b w' i X.st.length);obtain ⟨b2,q2⟩:∃ b,b=inB i X.st.length:=⟨_,rfl⟩;rw[<-q2] at HA;have hst2:Hid (b1=true\/b2=true->(∀ y ∈ X.st.take (j+1),stOk m y)/\(∀ y ∈ m.ro,roOk m y)/\True):=zI (fun h=>hst.out (h.elim (fun h=>.inl (hi ▸ (by rw[<-q1] at h;simpa using h))) (fun h=>.inr (by rw[hsn.out,<-hi,<-q2];exact h))));clear hi hst q2;cases b1 with
      | true=>
       have hst3:=zI (hst2.out (.inl rfl));go_wp2_with fail
       go_roundw
       case rel=>exact ⟨j+1,true,by omega,by go_num,rfl,zI (fun _=>hst3.out),hC⟩
       case measure=>(simp[intOf]<;>omega)
      | false=>
       go_wp2_with (go_at_call 43;refine (HA.out _).mono ?_;rintro e w' ⟨rfl,rfl⟩)
       go_roundw
       case rel=>exact ⟨j+1,b2,by omega,by go_num,rfl,zI (fun h=>hst2.out (.inr h)),hC⟩
       case measure=>(simp[intOf]<;>omega)
    ·obtain rfl:j=X.st.length:=by omega
     have hP:Hid (ok=true->(∀ y ∈ X.st,stOk m y)/\(∀ y ∈ m.ro,roOk m y)/\True):=zI (fun h=>by have:=hI.out h;rwa [List.take_length] at this);clear hI;go_wp2_with fail
     clear e0 e1 e2 e3 e4 e5 e6 e7 e8 e9;go_loopw [8,3,9] (fun x v _ wr=>∃ (j:Nat) (ok:Bool),j<=m.ev.length/\x=.int .i64 j/\v=.bool ok/\Hid (ok=true->(∀ y ∈ m.ev.take j,evOk m y)/\(∀ y ∈ X.st,stOk m y)/\(∀ y ∈ m.ro,roOk m y)/\True)/\Hid (Chg (fun _=>False) w1 wr)) (fun x _ _ _=>m.ev.length - (intOf x).toNat)
     case atStart=>exact ⟨0,ok,Nat.zero_le _,rfl,rfl,zI (fun h=>⟨by simp,hP.out h⟩),hC⟩
     case round=>
      clear hP hC;obtain ⟨j,ok,hj,rfl,rfl,hI,hC⟩:=hrel;obtain ⟨e0,e1,e2,e3,e4,e5,e6,e7,e8,e9⟩:=HM.out wr hC.out;by_cases hlt:j < m.ev.length
      ·obtain ⟨x,hx⟩:∃ x,m.ev[j]?=some x:=⟨_,gG hlt⟩;obtain ⟨b1,o1,hA1,_,hc⟩:=row_at (f:=evC) (C:=5) (fun _=>rfl) (by omega) (HX.out wr hC.out).mo.ev hx;have c0:=hc 0 _ rfl;have c1:=hc 1 _ rfl;have c2:=hc 2 _ rfl;have c3:=hc 3 _ rfl;have c4:=hc 4 _ rfl;rw[Nat.add_zero] at c0;rw[hA1] at e5;have hst:=zI (fun h1 h2=>(⟨all_take hx (hI.out h1).1 h2,(hI.out h1).2⟩:(∀ y ∈ m.ev.take (j+1),evOk m y)/\(∀ y ∈ X.st,stOk m y)/\(∀ y ∈ m.ro,roOk m y)/\True));clear hc;cases ok with
       | false=>
        clear hA1;have hC2:Hid (Chg (fun _=>False) w1 (wr.alloc (.cells #[.string x.nm,.int .i64 x.role,.int .i64 x.stage,.slice x.sa x.sn x.sc,.int .i64 x.times] 73))):=hC.out.alloc _;go_wp2_with fail
        go_roundw
        case rel=>exact ⟨j+1,false,by omega,by go_num,rfl,zI nov,hC2⟩
        case measure=>(simp[intOf]<;>omega)
       | true=>
        replace hst:=zI (hst.out rfl);obtain ⟨ls,hls⟩:∃ ls,X.evS[j]?=some ls:=⟨_,gG (by rw[(HX.out wr hC.out).evN];exact hlt)⟩;have hn:=Blk.new wr 73 #[.string x.nm,.int .i64 x.role,.int .i64 x.stage,.slice x.sa x.sn x.sc,.int .i64 x.times];have n0:(wr.alloc (.cells #[.string x.nm,.int .i64 x.role,.int .i64 x.stage,.slice x.sa x.sn x.sc,.int .i64 x.times] 73)).cell? ⟨wr.heap.size,0,none⟩=some (.string x.nm):=by rw[hn.cell];rfl
        have n1:(wr.alloc (.cells #[.string x.nm,.int .i64 x.role,.int .i64 x.stage,.slice x.sa x.sn x.sc,.int .i64 x.times] 73)).cell? ⟨wr.heap.size,1,none⟩=some (.int .i64 x.role):=by rw[hn.cell];rfl
        have n2:(wr.alloc (.cells #[.string x.nm,.int .i64 x.role,.int .i64 x.stage,.slice x.sa x.sn x.sc,.int .i64 x.times] 73)).cell? ⟨wr.heap.size,2,none⟩=some (.int .i64 x.stage):=by rw[hn.cell];rfl
        have n3:(wr.alloc (.cells #[.string x.nm,.int .i64 x.role,.int .i64 x.stage,.slice x.sa x.sn x.sc,.int .i64 x.times] 73)).cell? ⟨wr.heap.size,3,none⟩=some (.slice x.sa x.sn x.sc):=by rw[hn.cell];rfl
        have n4:(wr.alloc (.cells #[.string x.nm,.int .i64 x.role,.int .i64 x.stage,.slice x.sa x.sn x.sc,.int .i64 x.times] 73)).cell? ⟨wr.heap.size,4,none⟩=some (.int .i64 x.times):=by rw[hn.cell];rfl
        have k0:=kal (o:=.cells #[.string x.nm,.int .i64 x.role,.int .i64 x.stage,.slice x.sa x.sn x.sc,.int .i64 x.times] 73) e0;have k1:=kal (o:=.cells #[.string x.nm,.int .i64 x.role,.int .i64 x.stage,.slice x.sa x.sn x.sc,.int .i64 x.times] 73) e1;have k2:=kal (o:=.cells #[.string x.nm,.int .i64 x.role,.int .i64 x.stage,.slice x.sa x.sn x.sc,.int .i64 x.times] 73) e2;have k3:=kal (o:=.cells #[.string x.nm,.int .i64 x.role,.int .i64 x.stage,.slice x.sa x.sn x.sc,.int .i64 x.times] 73) e3;have k4:=kal (o:=.cells #[.string x.nm,.int .i64 x.role,.int .i64 x.stage,.slice x.sa x.sn x.sc,.int .i64 x.times] 73) e4;have k5:=kal (o:=.cells #[.string x.nm,.int .i64 x.role,.int .i64 x.stage,.slice x.sa x.sn x.sc,.int .i64 x.times] 73) e5;have k6:=kal (o:=.cells #[.string x.nm,.int .i64 x.role,.int .i64 x.stage,.slice x.sa x.sn x.sc,.int .i64 x.times] 73) e6;have k7:=kal (o:=.cells #[.string x.nm,.int .i64 x.role,.int .i64 x.stage,.slice x.sa x.sn x.sc,.int .i64 x.times] 73) e7;have k8:=kal (o:=.cells #[.string x.nm,.int .i64 x.role,.int .i64 x.stage,.slice x.sa x.sn x.sc,.int .i64 x.times] 73) e8;have k9:=kal (o:=.cells #[.string x.nm,.int .i64 x.role,.int .i64 x.stage,.slice x.sa x.sn x.sc,.int .i64 x.times] 73) e9;have hC2:Hid (Chg (fun _=>False) w1 (wr.alloc (.cells #[.string x.nm,.int .i64 x.role,.int .i64 x.stage,.slice x.sa x.sn x.sc,.int .i64 x.times] 73))):=hC.out.alloc _;clear hn;obtain ⟨hsn2,hls2,hRs⟩:=(HX.out _ hC2.out).ev j x ls hx hls;have HS:=zI (sets13_any (wr.alloc (.cells #[.string x.nm,.int .i64 x.role,.int .i64 x.stage,.slice x.sa x.sn x.sc,.int .i64 x.times] 73)) m x.sa x.sc ls hls2 hRs);rw[<-hsn2] at HS;unfold mA at HS;rw[hA1] at HS;clear hA1;have HA:=zI (fun w'=>in13_b w' x.role m.ro.length);have HB:=zI (fun w'=>in13_b w' x.stage m.nS);obtain ⟨b1,q1⟩:∃ b,b=inB x.role m.ro.length:=⟨_,rfl⟩;obtain ⟨b2,q2⟩:∃ b,b=inB x.stage m.nS:=⟨_,rfl⟩;rw[<-q1] at HA;rw[<-q2] at HB;have hst2:Hid (b1=true->b2=true->(∀ y ∈ m.ev.take (j+1),evOk m y)/\(∀ y ∈ X.st,stOk m y)/\(∀ y ∈ m.ro,roOk m y)/\True):=zI (fun h1 h2=>hst.out ⟨q1 ▸ h1,q2 ▸ h2⟩);clear hst q1 q2 hx hls hls2 hRs hsn2;cases b1 with
        | false=>
         go_wp2_with (go_at_call 43;refine (HA.out _).mono ?_;rintro e w' ⟨rfl,rfl⟩)
         go_roundw
         case rel=>exact ⟨j+1,false,by omega,by go_num,rfl,zI nov,hC2⟩
         case measure=>(simp[intOf]<;>omega)
        | true=>
         cases b2 with
         | false=>
          go_wp2_with (first
           | (go_at_call 43;refine (HA.out _).mono ?_;rintro e w' ⟨rfl,rfl⟩;clear HA)
           | (go_at_call 43;refine (HB.out _).mono ?_;rintro e w' ⟨rfl,rfl⟩))
          go_roundw
          case rel=>exact ⟨j+1,false,by omega,by go_num,rfl,zI nov,hC2⟩
          case measure=>(simp[intOf]<;>omega)
         | true=>
          have hst3:=zI (hst2.out rfl rfl);go_wp2_with (first
           | (go_at_call 43;refine (HA.out _).mono ?_;rintro e w' ⟨rfl,rfl⟩;clear HA)
           | (go_at_call 43;refine (HB.out _).mono ?_;rintro e w' ⟨rfl,rfl⟩;clear HB)
           | (go_at_call 44;refine HS.out.mono ?_;rintro e w3 ⟨⟨b,rfl⟩,hC3⟩;have C3:=zI (Ct hC2.out hC3);clear hC3 HS))
          go_roundw
          case rel=>exact ⟨j+1,b,by omega,by go_num,rfl,zI (fun _=>hst3.out),C3⟩
          case measure=>(simp[intOf]<;>omega)
      ·obtain rfl:j=m.ev.length:=by omega
       have hP:Hid (ok=true->(∀ y ∈ m.ev,evOk m y)/\(∀ y ∈ X.st,stOk m y)/\(∀ y ∈ m.ro,roOk m y)/\True):=zI (fun h=>by have:=hI.out h;rwa [List.take_length] at this);clear hI;go_wp2_with fail
       clear e0 e1 e2 e3 e4 e5 e6 e7 e8 e9;go_loopw [10,3,11] (fun x v _ wr=>∃ (j:Nat) (ok:Bool),j<=m.gu.length/\x=.int .i64 j/\v=.bool ok/\Hid (ok=true->(∀ y ∈ m.gu.take j,guOk m y)/\(∀ y ∈ m.ev,evOk m y)/\(∀ y ∈ X.st,stOk m y)/\(∀ y ∈ m.ro,roOk m y)/\True)/\Hid (Chg (fun _=>False) w1 wr)) (fun x _ _ _=>m.gu.length - (intOf x).toNat)
       case atStart=>exact ⟨0,ok,Nat.zero_le _,rfl,rfl,zI (fun h=>⟨by simp,hP.out h⟩),hC⟩
       case round=>
        clear hP hC;obtain ⟨j,ok,hj,rfl,rfl,hI,hC⟩:=hrel;obtain ⟨e0,e1,e2,e3,e4,e5,e6,e7,e8,e9⟩:=HM.out wr hC.out;by_cases hlt:j < m.gu.length
        ·obtain ⟨x,hx⟩:∃ x,m.gu[j]?=some x:=⟨_,gG hlt⟩;obtain ⟨b1,o1,hA1,_,hc⟩:=row_at (f:=guC) (C:=3) (fun _=>rfl) (by omega) (HX.out wr hC.out).mo.gu hx;have c0:=hc 0 _ rfl;have c1:=hc 1 _ rfl;have c2:=hc 2 _ rfl;rw[Nat.add_zero] at c0;rw[hA1] at e6;have hst:=zI (fun h1 h2=>(⟨all_take hx (hI.out h1).1 h2,(hI.out h1).2⟩:(∀ y ∈ m.gu.take (j+1),guOk m y)/\(∀ y ∈ m.ev,evOk m y)/\(∀ y ∈ X.st,stOk m y)/\(∀ y ∈ m.ro,roOk m y)/\True));clear hc;cases ok with
         | false=>
          clear hA1;have hC2:Hid (Chg (fun _=>False) w1 (wr.alloc (.cells #[.int .i64 x.stage,.int .i64 x.event,.slice x.ia x.il x.ic] 69))):=hC.out.alloc _;go_wp2_with fail
          go_roundw
          case rel=>exact ⟨j+1,false,by omega,by go_num,rfl,zI nov,hC2⟩
          case measure=>(simp[intOf]<;>omega)
         | true=>
          replace hst:=zI (hst.out rfl);obtain ⟨ls,hls⟩:∃ ls,X.guI[j]?=some ls:=⟨_,gG (by rw[(HX.out wr hC.out).guN];exact hlt)⟩;have hn:=Blk.new wr 69 #[.int .i64 x.stage,.int .i64 x.event,.slice x.ia x.il x.ic];have n0:(wr.alloc (.cells #[.int .i64 x.stage,.int .i64 x.event,.slice x.ia x.il x.ic] 69)).cell? ⟨wr.heap.size,0,none⟩=some (.int .i64 x.stage):=by rw[hn.cell];rfl
          have n1:(wr.alloc (.cells #[.int .i64 x.stage,.int .i64 x.event,.slice x.ia x.il x.ic] 69)).cell? ⟨wr.heap.size,1,none⟩=some (.int .i64 x.event):=by rw[hn.cell];rfl
          have n2:(wr.alloc (.cells #[.int .i64 x.stage,.int .i64 x.event,.slice x.ia x.il x.ic] 69)).cell? ⟨wr.heap.size,2,none⟩=some (.slice x.ia x.il x.ic):=by rw[hn.cell];rfl
          have k0:=kal (o:=.cells #[.int .i64 x.stage,.int .i64 x.event,.slice x.ia x.il x.ic] 69) e0;have k1:=kal (o:=.cells #[.int .i64 x.stage,.int .i64 x.event,.slice x.ia x.il x.ic] 69) e1;have k2:=kal (o:=.cells #[.int .i64 x.stage,.int .i64 x.event,.slice x.ia x.il x.ic] 69) e2;have k3:=kal (o:=.cells #[.int .i64 x.stage,.int .i64 x.event,.slice x.ia x.il x.ic] 69) e3;have k4:=kal (o:=.cells #[.int .i64 x.stage,.int .i64 x.event,.slice x.ia x.il x.ic] 69) e4;have k5:=kal (o:=.cells #[.int .i64 x.stage,.int .i64 x.event,.slice x.ia x.il x.ic] 69) e5;have k6:=kal (o:=.cells #[.int .i64 x.stage,.int .i64 x.event,.slice x.ia x.il x.ic] 69) e6;have k7:=kal (o:=.cells #[.int .i64 x.stage,.int .i64 x.event,.slice x.ia x.il x.ic] 69) e7;have k8:=kal (o:=.cells #[.int .i64 x.stage,.int .i64 x.event,.slice x.ia x.il x.ic] 69) e8;have k9:=kal (o:=.cells #[.int .i64 x.stage,.int .i64 x.event,.slice x.ia x.il x.ic] 69) e9;have hC2:Hid (Chg (fun _=>False) w1 (wr.alloc (.cells #[.int .i64 x.stage,.int .i64 x.event,.slice x.ia x.il x.ic] 69))):=hC.out.alloc _;clear hn;obtain ⟨hsn2,hls2,hRs⟩:=(HX.out _ hC2.out).gu j x ls hx hls;have HS:=zI (check11_any (wr.alloc (.cells #[.int .i64 x.stage,.int .i64 x.event,.slice x.ia x.il x.ic] 69)) m x.ia x.ic ls false hls2 hRs);rw[<-hsn2] at HS;unfold mA at HS;rw[hA1] at HS;clear hA1;have HA:=zI (fun w'=>in13_b w' x.stage m.nS);have HB:=zI (fun w'=>in13_b w' x.event m.ev.length);obtain ⟨b1,q1⟩:∃ b,b=inB x.stage m.nS:=⟨_,rfl⟩;obtain ⟨b2,q2⟩:∃ b,(x.event ==-1)=b:=⟨_,rfl⟩;obtain ⟨b3,q3⟩:∃ b,b=inB x.event m.ev.length:=⟨_,rfl⟩;rw[<-q1] at HA;rw[<-q3] at HB;have hst2:Hid (b1=true->b2=true\/b3=true->x.il<=64->(∀ y ∈ m.gu.take (j+1),guOk m y)/\(∀ y ∈ m.ev,evOk m y)/\(∀ y ∈ X.st,stOk m y)/\(∀ y ∈ m.ro,roOk m y)/\True):=zI (fun h1 h2 h3=>hst.out ⟨q1 ▸ h1,h2.elim (fun h=>.inl (by rw[<-q2] at h;simpa using h)) (fun h=>.inr (q3 ▸ h)),h3⟩);clear hst q1 q3 hx hls hls2 hRs hsn2;cases b1 with
          | false=>
           go_wp2_with (go_at_call 43;refine (HA.out _).mono ?_;rintro e w' ⟨rfl,rfl⟩)
           go_roundw
           case rel=>exact ⟨j+1,false,by omega,by go_num,rfl,zI nov,hC2⟩
           case measure=>(simp[intOf]<;>omega)
          | true=>
           cases b2 with
           | true=>
            have hst3:=zI (hst2.out rfl (.inl rfl));go_wp2_with (first
             | (go_at_call 43;refine (HA.out _).mono ?_;rintro e w' ⟨rfl,rfl⟩;clear HA)
             | (go_at_call 45;refine HS.out.mono ?_;rintro e w3 ⟨⟨b,rfl,hb6⟩,hC3⟩;have C3:=zI (Ct hC2.out hC3);have B6:=zI hb6;clear hC3 hb6 HS))
            go_roundw
            case rel=>exact ⟨j+1,b,by omega,by go_num,rfl,zI (fun h=>hst3.out (B6.out h)),C3⟩
            case measure=>(simp[intOf]<;>omega)
           | false=>
            cases b3 with
            | false=>
             go_wp2_with (first
              | (go_at_call 43;refine (HA.out _).mono ?_;rintro e w' ⟨rfl,rfl⟩;clear HA)
              | (go_at_call 43;refine (HB.out _).mono ?_;rintro e w' ⟨rfl,rfl⟩))
             go_roundw
             case rel=>exact ⟨j+1,false,by omega,by go_num,rfl,zI nov,hC2⟩
             case measure=>(simp[intOf]<;>omega)
            | true=>
             have hst3:=zI (hst2.out rfl (.inr rfl));go_wp2_with (first
              | (go_at_call 43;refine (HA.out _).mono ?_;rintro e w' ⟨rfl,rfl⟩;clear HA)
              | (go_at_call 43;refine (HB.out _).mono ?_;rintro e w' ⟨rfl,rfl⟩;clear HB)
              | (go_at_call 45;refine HS.out.mono ?_;rintro e w3 ⟨⟨b,rfl,hb6⟩,hC3⟩;have C3:=zI (Ct hC2.out hC3);have B6:=zI hb6;clear hC3 hb6 HS))
             go_roundw
             case rel=>exact ⟨j+1,b,by omega,by go_num,rfl,zI (fun h=>hst3.out (B6.out h)),C3⟩
             case measure=>(simp[intOf]<;>omega)
        ·obtain rfl:j=m.gu.length:=by omega
         have hP:Hid (ok=true->(∀ y ∈ m.gu,guOk m y)/\(∀ y ∈ m.ev,evOk m y)/\(∀ y ∈ X.st,stOk m y)/\(∀ y ∈ m.ro,roOk m y)/\True):=zI (fun h=>by have:=hI.out h;rwa [List.take_length] at this);clear hI;go_wp2_with fail
         clear e0 e1 e2 e3 e4 e5 e6 e7 e8 e9;go_loopw [12,3,13] (fun x v _ wr=>∃ (j:Nat) (ok:Bool),j<=m.mi.length/\x=.int .i64 j/\v=.bool ok/\Hid (ok=true->(∀ y ∈ m.mi.take j,miOk m y)/\(∀ y ∈ m.gu,guOk m y)/\(∀ y ∈ m.ev,evOk m y)/\(∀ y ∈ X.st,stOk m y)/\(∀ y ∈ m.ro,roOk m y)/\True)/\Hid (Chg (fun _=>False) w1 wr)) (fun x _ _ _=>m.mi.length - (intOf x).toNat)
         case atStart=>exact ⟨0,ok,Nat.zero_le _,rfl,rfl,zI (fun h=>⟨by simp,hP.out h⟩),hC⟩
         case round=>
          clear hP hC;obtain ⟨j,ok,hj,rfl,rfl,hI,hC⟩:=hrel;obtain ⟨e0,e1,e2,e3,e4,e5,e6,e7,e8,e9⟩:=HM.out wr hC.out;by_cases hlt:j < m.mi.length
          ·obtain ⟨x,hx⟩:∃ x,m.mi[j]?=some x:=⟨_,gG hlt⟩;obtain ⟨b1,o1,hA1,_,hc⟩:=row_at (f:=miC) (C:=5) (fun _=>rfl) (by omega) (HX.out wr hC.out).mo.mi hx;have c0:=hc 0 _ rfl;have c1:=hc 1 _ rfl;have c2:=hc 2 _ rfl;have c3:=hc 3 _ rfl;have c4:=hc 4 _ rfl;rw[Nat.add_zero] at c0;rw[hA1] at e7;have hst:=zI (fun h1 h2=>(⟨all_take hx (hI.out h1).1 h2,(hI.out h1).2⟩:(∀ y ∈ m.mi.take (j+1),miOk m y)/\(∀ y ∈ m.gu,guOk m y)/\(∀ y ∈ m.ev,evOk m y)/\(∀ y ∈ X.st,stOk m y)/\(∀ y ∈ m.ro,roOk m y)/\True));clear hc;cases ok with
           | false=>
            clear hA1;have hC2:Hid (Chg (fun _=>False) w1 (wr.alloc (.cells #[.string x.nm,.int .i64 x.stage,.int .i64 x.event,.slice x.ia x.il x.ic,.bool x.fin] 71))):=hC.out.alloc _;go_wp2_with fail
            go_roundw
            case rel=>exact ⟨j+1,false,by omega,by go_num,rfl,zI nov,hC2⟩
            case measure=>(simp[intOf]<;>omega)
           | true=>
            replace hst:=zI (hst.out rfl);obtain ⟨ls,hls⟩:∃ ls,X.miI[j]?=some ls:=⟨_,gG (by rw[(HX.out wr hC.out).miN];exact hlt)⟩;have hn:=Blk.new wr 71 #[.string x.nm,.int .i64 x.stage,.int .i64 x.event,.slice x.ia x.il x.ic,.bool x.fin];have n0:(wr.alloc (.cells #[.string x.nm,.int .i64 x.stage,.int .i64 x.event,.slice x.ia x.il x.ic,.bool x.fin] 71)).cell? ⟨wr.heap.size,0,none⟩=some (.string x.nm):=by rw[hn.cell];rfl
            have n1:(wr.alloc (.cells #[.string x.nm,.int .i64 x.stage,.int .i64 x.event,.slice x.ia x.il x.ic,.bool x.fin] 71)).cell? ⟨wr.heap.size,1,none⟩=some (.int .i64 x.stage):=by rw[hn.cell];rfl
            have n2:(wr.alloc (.cells #[.string x.nm,.int .i64 x.stage,.int .i64 x.event,.slice x.ia x.il x.ic,.bool x.fin] 71)).cell? ⟨wr.heap.size,2,none⟩=some (.int .i64 x.event):=by rw[hn.cell];rfl
            have n3:(wr.alloc (.cells #[.string x.nm,.int .i64 x.stage,.int .i64 x.event,.slice x.ia x.il x.ic,.bool x.fin] 71)).cell? ⟨wr.heap.size,3,none⟩=some (.slice x.ia x.il x.ic):=by rw[hn.cell];rfl
            have n4:(wr.alloc (.cells #[.string x.nm,.int .i64 x.stage,.int .i64 x.event,.slice x.ia x.il x.ic,.bool x.fin] 71)).cell? ⟨wr.heap.size,4,none⟩=some (.bool x.fin):=by rw[hn.cell];rfl
            have k0:=kal (o:=.cells #[.string x.nm,.int .i64 x.stage,.int .i64 x.event,.slice x.ia x.il x.ic,.bool x.fin] 71) e0;have k1:=kal (o:=.cells #[.string x.nm,.int .i64 x.stage,.int .i64 x.event,.slice x.ia x.il x.ic,.bool x.fin] 71) e1;have k2:=kal (o:=.cells #[.string x.nm,.int .i64 x.stage,.int .i64 x.event,.slice x.ia x.il x.ic,.bool x.fin] 71) e2;have k3:=kal (o:=.cells #[.string x.nm,.int .i64 x.stage,.int .i64 x.event,.slice x.ia x.il x.ic,.bool x.fin] 71) e3;have k4:=kal (o:=.cells #[.string x.nm,.int .i64 x.stage,.int .i64 x.event,.slice x.ia x.il x.ic,.bool x.fin] 71) e4;have k5:=kal (o:=.cells #[.string x.nm,.int .i64 x.stage,.int .i64 x.event,.slice x.ia x.il x.ic,.bool x.fin] 71) e5;have k6:=kal (o:=.cells #[.string x.nm,.int .i64 x.stage,.int .i64 x.event,.slice x.ia x.il x.ic,.bool x.fin] 71) e6;have k7:=kal (o:=.cells #[.string x.nm,.int .i64 x.stage,.int .i64 x.event,.slice x.ia x.il x.ic,.bool x.fin] 71) e7;have k8:=kal (o:=.cells #[.string x.nm,.int .i64 x.stage,.int .i64 x.event,.slice x.ia x.il x.ic,.bool x.fin] 71) e8;have k9:=kal (o:=.cells #[.string x.nm,.int .i64 x.stage,.int .i64 x.event,.slice x.ia x.il x.ic,.bool x.fin] 71) e9;have hC2:Hid (Chg (fun _=>False) w1 (wr.alloc (.cells #[.string x.nm,.int .i64 x.stage,.int .i64 x.event,.slice x.ia x.il x.ic,.bool x.fin] 71))):=hC.out.alloc _;clear hn;obtain ⟨hsn2,hls2,hRs⟩:=(HX.out _ hC2.out).mi j x ls hx hls;have HS:=zI (check11_any (wr.alloc (.cells #[.string x.nm,.int .i64 x.stage,.int .i64 x.event,.slice x.ia x.il x.ic,.bool x.fin] 71)) m x.ia x.ic ls false hls2 hRs);rw[<-hsn2] at HS;unfold mA at HS;rw[hA1] at HS;clear hA1;have HA:=zI (fun w'=>in13_b w' x.stage m.nS);have HB:=zI (fun w'=>in13_b w' x.event m.ev.length);obtain ⟨b1,q1⟩:∃ b,b=inB x.stage m.nS:=⟨_,rfl⟩;obtain ⟨b2,q2⟩:∃ b,(x.event ==-1)=b:=⟨_,rfl⟩;obtain ⟨b3,q3⟩:∃ b,b=inB x.event m.ev.length:=⟨_,rfl⟩;rw[<-q1] at HA;rw[<-q3] at HB;have hst2:Hid (b1=true->b2=true\/b3=true->x.il<=64->(∀ y ∈ m.mi.take (j+1),miOk m y)/\(∀ y ∈ m.gu,guOk m y)/\(∀ y ∈ m.ev,evOk m y)/\(∀ y ∈ X.st,stOk m y)/\(∀ y ∈ m.ro,roOk m y)/\True):=zI (fun h1 h2 h3=>hst.out ⟨q1 ▸ h1,h2.elim (fun h=>.inl (by rw[<-q2] at h;simpa using h)) (fun h=>.inr (q3 ▸ h)),h3⟩);clear hst q1 q3 hx hls hls2 hRs hsn2;cases b1 with
            | false=>
             go_wp2_with (go_at_call 43;refine (HA.out _).mono ?_;rintro e w' ⟨rfl,rfl⟩)
             go_roundw
             case rel=>exact ⟨j+1,false,by omega,by go_num,rfl,zI nov,hC2⟩
             case measure=>(simp[intOf]<;>omega)
            | true=>
             cases b2 with
             | true=>
              have hst3:=zI (hst2.out rfl (.inl rfl));go_wp2_with (first
               | (go_at_call 43;refine (HA.out _).mono ?_;rintro e w' ⟨rfl,rfl⟩;clear HA)
               | (go_at_call 45;refine HS.out.mono ?_;rintro e w3 ⟨⟨b,rfl,hb6⟩,hC3⟩;have C3:=zI (Ct hC2.out hC3);have B6:=zI hb6;clear hC3 hb6 HS))
              go_roundw
              case rel=>exact ⟨j+1,b,by omega,by go_num,rfl,zI (fun h=>hst3.out (B6.out h)),C3⟩
              case measure=>(simp[intOf]<;>omega)
             | false=>
              cases b3 with
              | false=>
               go_wp2_with (first
                | (go_at_call 43;refine (HA.out _).mono ?_;rintro e w' ⟨rfl,rfl⟩;clear HA)
                | (go_at_call 43;refine (HB.out _).mono ?_;rintro e w' ⟨rfl,rfl⟩))
               go_roundw
               case rel=>exact ⟨j+1,false,by omega,by go_num,rfl,zI nov,hC2⟩
               case measure=>(simp[intOf]<;>omega)
              | true=>
               have hst3:=zI (hst2.out rfl (.inr rfl));go_wp2_with (first
                | (go_at_call 43;refine (HA.out _).mono ?_;rintro e w' ⟨rfl,rfl⟩;clear HA)
                | (go_at_call 43;refine (HB.out _).mono ?_;rintro e w' ⟨rfl,rfl⟩;clear HB)
                | (go_at_call 45;refine HS.out.mono ?_;rintro e w3 ⟨⟨b,rfl,hb6⟩,hC3⟩;have C3:=zI (Ct hC2.out hC3);have B6:=zI hb6;clear hC3 hb6 HS))
               go_roundw
               case rel=>exact ⟨j+1,b,by omega,by go_num,rfl,zI (fun h=>hst3.out (B6.out h)),C3⟩
               case measure=>(simp[intOf]<;>omega)
          ·obtain rfl:j=m.mi.length:=by omega
           have hP:Hid (ok=true->(∀ y ∈ m.mi,miOk m y)/\(∀ y ∈ m.gu,guOk m y)/\(∀ y ∈ m.ev,evOk m y)/\(∀ y ∈ X.st,stOk m y)/\(∀ y ∈ m.ro,roOk m y)/\True):=zI (fun h=>by have:=hI.out h;rwa [List.take_length] at this);clear hI;go_wp2_with fail
           clear e0 e1 e2 e3 e4 e5 e6 e7 e8 e9;go_loopw [14,3] (fun x v wr=>∃ (j:Nat) (ok:Bool),j<=m.so.length/\x=.int .i64 j/\v=.bool ok/\Hid (ok=true->(∀ y ∈ m.so.take j,soOk m y)/\(∀ y ∈ m.mi,miOk m y)/\(∀ y ∈ m.gu,guOk m y)/\(∀ y ∈ m.ev,evOk m y)/\(∀ y ∈ X.st,stOk m y)/\(∀ y ∈ m.ro,roOk m y)/\True)/\Hid (Chg (fun _=>False) w1 wr)) (fun x _ _=>m.so.length - (intOf x).toNat)
           case atStart=>exact ⟨0,ok,Nat.zero_le _,rfl,rfl,zI (fun h=>⟨by simp,hP.out h⟩),hC⟩
           case round=>
            clear hP hC;obtain ⟨j,ok,hj,rfl,rfl,hI,hC⟩:=hrel;obtain ⟨e0,e1,e2,e3,e4,e5,e6,e7,e8,e9⟩:=HM.out wr hC.out;by_cases hlt:j < m.so.length
            ·obtain ⟨x,hx⟩:∃ x,m.so[j]?=some x:=⟨_,gG hlt⟩;obtain ⟨b1,o1,hA1,_,hc⟩:=row_at (f:=soC) (C:=2) (fun _=>rfl) (by omega) (HX.out wr hC.out).mo.so hx;have c0:=hc 0 _ rfl;have c1:=hc 1 _ rfl;rw[Nat.add_zero] at c0;rw[hA1] at e8;have hst:=zI (fun h1 h2=>(⟨all_take hx (hI.out h1).1 h2,(hI.out h1).2⟩:(∀ y ∈ m.so.take (j+1),soOk m y)/\(∀ y ∈ m.mi,miOk m y)/\(∀ y ∈ m.gu,guOk m y)/\(∀ y ∈ m.ev,evOk m y)/\(∀ y ∈ X.st,stOk m y)/\(∀ y ∈ m.ro,roOk m y)/\True));clear hc;cases ok with
             | false=>
              clear hA1 c0 c1 hx e0 e1 e2 e3 e4 e5 e6 e7 e9 hst;go_wp2_with fail
              refine wp_region_kept wr (Chg.refl _ _) (by kernel_rfl) (by kernel_rfl) ?_;repeat (go_big_quiet_step (fail))
              refine wpQuiet_nil ?_;rintro w4 ⟨n,rfl⟩;have C4:=zI (Ct hC.out n.h);obtain ⟨w5,hw5⟩:∃ w5,w5=n.w:=⟨_,rfl⟩;rw[<-hw5] at C4 |-;clear hw5;go_wp2_with fail
              go_roundw
              case rel=>exact ⟨j+1,false,by omega,by go_num,rfl,zI nov,C4⟩
              case measure=>(simp[intOf]<;>omega)
             | true=>
              replace hst:=zI (hst.out rfl);obtain ⟨xa,xb⟩:=x;dsimp only at c0 c1;have M0:=fun n:KW wr=>HM.out n.w (Ct hC.out n.h)
              have F5:=fun n:KW wr=>(M0 n).2.2.2.2.2.1
              have F8:=fun n:KW wr=>(M0 n).2.2.2.2.2.2.2.2.1
              have K0:=fun n:KW wr=>kept_cell c0 n
              have K1:=fun n:KW wr=>kept_cell c1 n
              have HA:=zI (fun n:KW wr=>kept_same (in13_b n.w xa m.ev.length));have HB:=zI (fun n:KW wr=>kept_same (in13_b n.w xb m.ev.length));obtain ⟨b1,q1⟩:∃ b,b=inB xa m.ev.length:=⟨_,rfl⟩;obtain ⟨b2,q2⟩:∃ b,b=inB xb m.ev.length:=⟨_,rfl⟩;obtain ⟨b3,q3⟩:∃ b,(xa !=xb)=b:=⟨_,rfl⟩;obtain ⟨b4,q4⟩:∃ b,(xa ==xb)=b:=⟨_,rfl⟩;rw[<-q1] at HA;rw[<-q2] at HB;have hst2:Hid (b1=true->b2=true->(∀ y ∈ m.so.take (j+1),soOk m y)/\(∀ y ∈ m.mi,miOk m y)/\(∀ y ∈ m.gu,guOk m y)/\(∀ y ∈ m.ev,evOk m y)/\(∀ y ∈ X.st,stOk m y)/\(∀ y ∈ m.ro,roOk m y)/\True):=zI (fun h1 h2=>hst.out ⟨q1 ▸ h1,q2 ▸ h2⟩);simp only[hA1] at F8;clear q1 q2 hA1 hst M0 c0 c1 hx e0 e1 e2 e3 e4 e5 e6 e7 e9;cases b1 with
              | false=>
               go_wp2_with fail
               refine wp_region_kept wr (Chg.refl _ _) (by kernel_rfl) (by kernel_rfl) ?_;repeat (go_big_quiet_step (first | with_reducible exact HA.out _ | with_reducible exact HB.out _))
               refine wpQuiet_nil ?_;rintro w4 ⟨n,rfl⟩;have C4:=zI (Ct hC.out n.h);obtain ⟨w5,hw5⟩:∃ w5,w5=n.w:=⟨_,rfl⟩;rw[<-hw5] at C4 |-;clear hw5 F5 F8 K0 K1 HA HB;go_wp2_with fail
               go_roundw
               case rel=>exact ⟨j+1,false,by omega,by go_num,rfl,zI nov,C4⟩
               case measure=>(simp[intOf]<;>omega)
              | true=>
               cases b2 with
               | false=>
                go_wp2_with fail
                refine wp_region_kept wr (Chg.refl _ _) (by kernel_rfl) (by kernel_rfl) ?_;repeat (go_big_quiet_step (first | with_reducible exact HA.out _ | with_reducible exact HB.out _))
                refine wpQuiet_nil ?_;rintro w4 ⟨n,rfl⟩;have C4:=zI (Ct hC.out n.h);obtain ⟨w5,hw5⟩:∃ w5,w5=n.w:=⟨_,rfl⟩;rw[<-hw5] at C4 |-;clear hw5 F5 F8 K0 K1 HA HB;go_wp2_with fail
                go_roundw
                case rel=>exact ⟨j+1,false,by omega,by go_num,rfl,zI nov,C4⟩
                case measure=>(simp[intOf]<;>omega)
               | true=>
                have hst3:=zI (hst2.out rfl rfl);go_wp2_with fail
                refine wp_region_kept wr (Chg.refl _ _) (by kernel_rfl) (by kernel_rfl) ?_;repeat (go_big_quiet_step (first | with_reducible exact HA.out _ | with_reducible exact HB.out _))
                refine wpQuiet_nil ?_;rintro w4 ⟨n,rfl⟩;have C4:=zI (Ct hC.out n.h);obtain ⟨w5,hw5⟩:∃ w5,w5=n.w:=⟨_,rfl⟩;rw[<-hw5] at C4 |-;clear hw5 F5 F8 K0 K1 HA HB;go_wp2_with fail
                go_roundw
                case rel=>exact ⟨j+1,_,by omega,by go_num,rfl,zI (fun _=>hst3.out),C4⟩
                case measure=>(simp[intOf]<;>omega)
            ·obtain rfl:j=m.so.length:=by omega
             have hP:Hid (ok=true->(∀ y ∈ m.so,soOk m y)/\(∀ y ∈ m.mi,miOk m y)/\(∀ y ∈ m.gu,guOk m y)/\(∀ y ∈ m.ev,evOk m y)/\(∀ y ∈ X.st,stOk m y)/\(∀ y ∈ m.ro,roOk m y)/\True):=zI (fun h=>by have:=hI.out h;rwa [List.take_length] at this);clear hI;go_wp2
             go_ret;exact ⟨⟨ok,rfl,fun h=>⟨(hP.out h).2.2.2.2.2.1,(hP.out h).2.2.2.2.1,(hP.out h).2.2.2.1,(hP.out h).2.2.1,(hP.out h).2.1,(hP.out h).1⟩⟩,Ct C0.out hC.out⟩
end
end Go.Proofs.YthohgagkjnbkbaaGreat
