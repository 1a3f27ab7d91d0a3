/- FragTrue, part 33: FrZe. Each theorem says what a function does, or a plain fact, under its own premises alone. -/
import Derived.Test.YthohgagkjnbkbaaGreatP32
set_option maxRecDepth 100000
set_option maxHeartbeats 16000000
namespace Go.Proofs.YthohgagkjnbkbaaGreat
section
open Go.RowKit
theorem nob {P:Prop} (h:false=true):P:=by cases h
def BR (P:Prop) (e:Ending):Prop:=∃ b,e=.returned (.bool b)/\(b=true->P)
def cntC (l:List (Int × Int)):Nat:=l.countP fun c=>c.2 !=-1
def sitsN (l:List (Int × Int)) (a:Int):Nat:=l.countP fun c=>hasB c.1 a
theorem countP_take {α:Type} {p:α->Bool} {l:List α} {j:Nat} {x:α} (h:l[j]?=some x):(l.take (j+1)).countP p=(l.take j).countP p+(if p x then 1 else 0):=by
 obtain ⟨hk,rfl⟩:=List.getElem?_eq_some_iff.1 h;rw[List.take_succ_eq_append_getElem hk,List.countP_append];simp
def ClUp (cl:List (Int × Int)) (j:Nat):Prop:=∀ (i:Nat) (c:Int × Int),i < j->cl[i]?=some c->0<=c.1/\c.1 < 2147483648/\(0 < c.1\/0<=c.2)/\(c.2=-1\/c.2=cntC (cl.take i))
def StUp (cl:List (Int × Int)) (n j:Nat):Prop:=∀ a:Nat,a < j->sitsN cl a=if a < n then 1 else 0
structure ClOK (cl:List (Int × Int)) (n k:Nat):Prop where
 up:ClUp cl cl.length
 st:StUp cl n 31
 cn:cntC cl=k
theorem bit_of {s:Int} (h0:0 < s) (h1:s < 2147483648):∃ a:Nat,a < 31/\hasB s a=true:=by
 obtain ⟨x,rfl⟩:∃ x:Nat,s=x:=⟨s.toNat,by omega⟩;obtain ⟨i,hi⟩:=Nat.exists_testBit_of_ne_zero (x:=x) (by omega);have hi31:i < 31:=by
  rcases Nat.lt_or_ge i 31 with h | h
  ·exact h
  ·have:x < 2 ^ i:=Nat.lt_of_lt_of_le (by omega:x < 2 ^ 31) (Nat.pow_le_pow_right (by omega) h);rw[Nat.testBit_lt_two_pow this] at hi;cases hi
 refine ⟨i,hi31,?_⟩;rw[hasB_in hi31,dT];rw[Nat.testBit_eq_decide_div_mod_eq,dT] at hi;have:((x:Int) / 2 ^ i) % 2=((x / 2 ^ i % 2:Nat):Int):=by simp
 rw[this,hi];rfl
theorem sum_add (f g:Nat->Nat):∀ l:List Nat,(l.map fun a=>f a+g a).sum=(l.map f).sum+(l.map g).sum
 | []=>rfl
 | x::l=>by
  have:=sum_add f g l;simp only[List.map_cons,List.sum_cons];omega
theorem sum_one {f:Nat->Nat} {a:Nat}:∀ {l:List Nat},a ∈ l->f a<=(l.map f).sum
 | x::l,h=>by
  simp only[List.map_cons,List.sum_cons];rcases List.mem_cons.1 h with rfl | h
  ·omega
  ·have:=sum_one (f:=f) h;omega
theorem plain_le:∀ cl:List (Int × Int),(∀ c ∈ cl,c.2=-1->∃ a:Nat,a < 31/\hasB c.1 a=true)->cl.countP (fun c=>c.2 ==-1)<=((List.range 31).map fun (a:Nat)=>sitsN cl (a:Int)).sum
 | [],_=>by simp
 | c::cl,h=>by
  have ih:=plain_le cl (fun x hx=>h x (List.mem_cons_of_mem _ hx));have e:∀ a:Nat,sitsN (c::cl) (a:Int)=sitsN cl a+(if hasB c.1 a then 1 else 0):=fun a=>by unfold sitsN;rw[List.countP_cons]
  rw[show ((List.range 31).map fun (a:Nat)=>sitsN (c::cl) (a:Int))=((List.range 31).map fun (a:Nat)=>sitsN cl a+(if hasB c.1 a then 1 else 0)) from List.map_congr_left (fun a _=>e a),sum_add (fun (a:Nat)=>sitsN cl a) (fun (a:Nat)=>if hasB c.1 a then 1 else 0),List.countP_cons];by_cases hc:c.2=-1
  ·obtain ⟨a,ha,hb⟩:=h c (List.mem_cons_self ..) hc;have:=sum_one (f:=fun a:Nat=>if hasB c.1 a then 1 else 0) (a:=a) (l:=List.range 31) (List.mem_range.2 ha);simp only[hb,if_true] at this;split<;>omega
  ·have:(c.2 ==-1)=false:=by simpa using hc
   rw[this];simp only[Bool.false_eq_true,if_false];omega
theorem ones_sum:∀ n:Nat,n<=31->((List.range 31).map fun (a:Nat)=>if a < n then 1 else 0).sum=n:=by decide
theorem cls_len {cl:List (Int × Int)} {n k:Nat} (h:ClOK cl n k) (hn:n<=31):cl.length<=n+k:=by
 have h1:=plain_le cl (fun c hc e=>by
  obtain ⟨i,hi⟩:=List.getElem?_of_mem hc;obtain ⟨g1,g2,g3,_⟩:=h.up i c (List.getElem?_eq_some_iff.1 hi).1 hi;exact bit_of (by omega) g2)
 have h2:((List.range 31).map fun (a:Nat)=>sitsN cl (a:Int))=((List.range 31).map fun (a:Nat)=>if a < n then 1 else 0):=List.map_congr_left (fun a ha=>h.st a (List.mem_range.1 ha));rw[h2,ones_sum n hn] at h1;have h3:=List.length_eq_countP_add_countP (l:=cl) (fun c=>c.2 !=-1);have h4:cl.countP (fun c=>¬(c.2 !=-1)=true)=cl.countP (fun c=>c.2 ==-1):=List.countP_congr (by intro x _;simp);have h5:=h.cn;unfold cntC at h5;omega
theorem cnt_lt {cl:List (Int × Int)} {n k i:Nat} {c:Int × Int} (h:ClOK cl n k) (hi:cl[i]?=some c) (hc:0<=c.2):c.2=cntC (cl.take i)/\cntC (cl.take i) < k:=by
 obtain ⟨_,_,_,g⟩:=h.up i c (List.getElem?_eq_some_iff.1 hi).1 hi;have h1:c.2=cntC (cl.take i):=by omega
 have h2:cntC (cl.take (i+1))=cntC (cl.take i)+1:=by
  unfold cntC;rw[countP_take hi];rw[if_pos (by simp;omega)]
 have h3:cntC (cl.take (i+1))<=cntC cl:=by
  unfold cntC;exact (List.take_sublist (i+1) cl).countP_le
 have:=h.cn;exact ⟨h1,by omega⟩
theorem zcells {w:World} {g:Nat} {z:ZC} (h:Blk w g 88 (zA z)):w.cell? ⟨g,0,none⟩=some (.slice z.cA z.cl.length z.cC)/\w.cell? ⟨g,1,none⟩=some (.slice z.gA z.gl.length z.gC):=⟨by rw[h.cell];rfl,by rw[h.cell];rfl⟩
theorem sits_any (w:World) (z:ZC) (a:Int) (hz:ZOK w z):Calls Tryz.prog 124 #[.agg (zA z),.int .i64 a] w fun e w'=>e=.returned (.int .i64 (sitsN z.cl a))/\Chg (fun _=>False) w w':=by
 have hb:=Blk.new w 88 (zA z);have C0:=zI ((Chg.refl (fun _=>False) w).alloc (.cells (zA z) 88));obtain ⟨w1,hw1⟩:∃ w1,w1=w.alloc (.cells (zA z) 88):=⟨_,rfl⟩;rw[<-hw1] at hb C0;obtain ⟨e0,e1⟩:=zcells hb;have HZ:=zI (hz.later C0.out);have hl:=hz.few.1;clear hb hz;unfold zA at hw1 |-;go_enter Tryz.func124,Tryz.ntmps124;go_wp2_with fail
 rw[<-hw1];clear hw1;go_loopw [6,5] (fun x y wr=>∃ j:Nat,j<=z.cl.length/\x=.int .i64 j/\y=.int .i64 (sitsN (z.cl.take j) a)/\w1=wr) (fun x _ _=>z.cl.length - (intOf x).toNat)
 case atStart=>exact ⟨0,Nat.zero_le _,rfl,by simp[sitsN],rfl⟩
 case round=>
  obtain ⟨j,hj,rfl,rfl,rfl⟩:=hrel;by_cases hlt:j < z.cl.length
  ·obtain ⟨x,hx⟩:∃ x,z.cl[j]?=some x:=⟨_,gG hlt⟩;obtain ⟨b0,o0,hA,_,c0,c1⟩:=so_at HZ.out.cls hx;rw[hA] at e0;have HH:=zI (refHas_any w1 x.1 a (HZ.out.cin x (List.mem_of_getElem? hx)).1);have hs:Hid (sitsN (z.cl.take (j+1)) a=sitsN (z.cl.take j) a+(if hasB x.1 a then 1 else 0)):=countP_take hx;have hsl:sitsN (z.cl.take j) a<=100000:=by
    have:=List.countP_le_length (p:=fun c:Int × Int=>hasB c.1 a) (l:=z.cl.take j);unfold sitsN;rw[List.length_take] at this;omega
   obtain ⟨sn,hsn⟩:∃ sn,sn=sitsN (z.cl.take j) a:=⟨_,rfl⟩;rw[<-hsn] at hs hsl;rw[<-hsn];obtain ⟨b,hbb⟩:∃ b,b=hasB x.1 a:=⟨_,rfl⟩;rw[<-hbb] at HH hs;clear hx hbb hsn hA;cases b with
   | true=>
    go_wp2_with (go_at_call 99;refine HH.out.mono ?_;rintro e w' ⟨rfl,rfl⟩)
    go_roundw
    case rel=>exact ⟨j+1,by omega,by go_num,by rw[hs.out];go_num,trivial⟩
    case measure=>(simp[intOf]<;>omega)
   | false=>
    go_wp2_with (go_at_call 99;refine HH.out.mono ?_;rintro e w' ⟨rfl,rfl⟩)
    go_roundw
    case rel=>exact ⟨j+1,by omega,by go_num,by rw[hs.out];go_num,trivial⟩
    case measure=>(simp[intOf]<;>omega)
  ·obtain rfl:j=z.cl.length:=by omega
   have hv:Hid (sitsN (z.cl.take z.cl.length) a=sitsN z.cl a):=by show _=_;rw[List.take_length]
   rw[hv.out];obtain ⟨sn,hsn⟩:∃ sn,sn=sitsN z.cl a:=⟨_,rfl⟩;rw[<-hsn];replace hsn:=zI hsn;clear hv;go_wp2
   go_ret;exact ⟨by rw[<-hsn.out];rfl,C0.out⟩
theorem classes_any (w:World) (z:ZC) (n k:Nat) (hz:ZOK w z) (_hn:n<=31):Calls Tryz.prog 109 #[.agg (zA z),.int .i64 n,.int .i64 k] w fun e w'=>BR (ClOK z.cl n k) e/\Chg (fun _=>False) w w':=by
 have hb:=Blk.new w 88 (zA z);have C0:=zI ((Chg.refl (fun _=>False) w).alloc (.cells (zA z) 88));obtain ⟨w1,hw1⟩:∃ w1,w1=w.alloc (.cells (zA z) 88):=⟨_,rfl⟩;rw[<-hw1] at hb C0;have HE:=zI (fun (w':World) (h:Chg (fun _=>False) w1 w')=>zcells (hb.chg h (fun h=>h)));have HZ:=zI (fun (w':World) (h:Chg (fun _=>False) w1 w')=>(hz.later C0.out).later h);have HS:=zI (fun (w':World) (h:Chg (fun _=>False) w1 w') (a:Int)=>sits_any w' z a ((hz.later C0.out).later h));have hl:=hz.few.1;clear hb hz;unfold zA at hw1 HS |-;go_enter Tryz.func109,Tryz.ntmps109;go_wp2_with fail
 rw[<-hw1];clear hw1;go_loopw [8,7] (fun x y wr=>∃ (j:Nat) (ok:Bool),j<=31/\x=.int .i64 j/\y=.bool ok/\Hid (ok=true->StUp z.cl n j)/\Hid (Chg (fun _=>False) w1 wr)) (fun x _ _=>31 - (intOf x).toNat)
 case atStart=>exact ⟨0,true,Nat.zero_le _,rfl,rfl,zI (fun _ a h=>by omega),Chg.refl _ _⟩
 case round=>
  obtain ⟨j,ok,hj,rfl,rfl,hok,CR⟩:=hrel;by_cases hlt:j < 31
  ·have d1:decide ((j:Int) < 31)=true:=by rw[dT];omega
   have HS2:=zI (HS.out wr CR.out j);obtain ⟨sn,hsn⟩:∃ sn,sn=sitsN z.cl (j:Int):=⟨_,rfl⟩;rw[<-hsn] at HS2;have hst:Hid (ok=true->sn=(if j < n then 1 else 0)->StUp z.cl n (j+1)):=fun h1 h2 a ha=>by
    by_cases haj:a < j
    ·exact hok.out h1 a haj
    ·obtain rfl:a=j:=by omega
     rw[<-hsn];exact h2
   obtain ⟨f0,f1⟩:=HE.out wr CR.out;clear hsn;by_cases hjn:j < n
   ·have d2:decide ((j:Int) < (n:Int))=true:=by rw[dT];omega
    have d2N:decide (j < n)=true:=by rw[dT];omega
    have hst2:Hid (ok=true->sn=1->StUp z.cl n (j+1)):=fun h1 h2=>hst.out h1 (by rw[if_pos hjn];exact h2)
    cases ok with
    | false=>
     go_wp2_with fail
     go_roundw
     case rel=>exact ⟨j+1,false,by omega,by go_num,rfl,zI nob,CR⟩
     case measure=>(simp[intOf]<;>omega)
    | true=>
     obtain ⟨e,qe⟩:∃ e,((sn:Int) ==1)=e:=⟨_,rfl⟩;have qeN:(sn ==1)=e:=by rw[<-qe,Bool.eq_iff_iff,beq_iff_eq,beq_iff_eq];omega
     have hst3:Hid (e=true->StUp z.cl n (j+1)):=fun h=>hst2.out rfl (by rw[<-qeN] at h;simpa using h)
     go_wp2_with (go_at_call 124;refine HS2.out.mono ?_;rintro e' w2 ⟨rfl,hC2⟩;have C2:=zI (Ct CR.out hC2);clear hC2)
     go_roundw
     case rel=>exact ⟨j+1,e,by omega,by go_num,rfl,hst3,C2⟩
     case measure=>(simp[intOf]<;>omega)
   ·have d2:decide ((j:Int) < (n:Int))=false:=by rw[dF];omega
    have d2N:decide (j < n)=false:=by rw[dF];omega
    have hst2:Hid (ok=true->sn=0->StUp z.cl n (j+1)):=fun h1 h2=>hst.out h1 (by rw[if_neg hjn];exact h2)
    cases ok with
    | false=>
     go_wp2_with fail
     go_roundw
     case rel=>exact ⟨j+1,false,by omega,by go_num,rfl,zI nob,CR⟩
     case measure=>(simp[intOf]<;>omega)
    | true=>
     obtain ⟨e,qe⟩:∃ e,((sn:Int) ==0)=e:=⟨_,rfl⟩;have qeN:(sn ==0)=e:=by rw[<-qe,Bool.eq_iff_iff,beq_iff_eq,beq_iff_eq];omega
     have hst3:Hid (e=true->StUp z.cl n (j+1)):=fun h=>hst2.out rfl (by rw[<-qeN] at h;simpa using h)
     go_wp2_with (go_at_call 124;refine HS2.out.mono ?_;rintro e' w2 ⟨rfl,hC2⟩;have C2:=zI (Ct CR.out hC2);clear hC2)
     go_roundw
     case rel=>exact ⟨j+1,e,by omega,by go_num,rfl,hst3,C2⟩
     case measure=>(simp[intOf]<;>omega)
  ·obtain rfl:j=31:=by omega
   have hok31:=zI hok.out;clear hok;go_wp2_with fail
   go_loopw [10,7,9,11] (fun x y v _ wr=>∃ (i nx:Nat) (ok':Bool),i<=z.cl.length/\x=.int .i64 i/\y=.bool ok'/\v=.int .i64 nx/\nx<=i/\Hid (nx=cntC (z.cl.take i))/\Hid (ok'=true->ok=true/\ClUp z.cl i)/\Hid (Chg (fun _=>False) w1 wr)) (fun x _ _ _ _=>z.cl.length - (intOf x).toNat)
   case atStart=>exact ⟨0,0,ok,Nat.zero_le _,rfl,rfl,rfl,Nat.le_refl _,zI rfl,zI (fun h=>⟨h,fun i c hi=>by omega⟩),CR⟩
   case round=>
    rename World=>wq
    obtain ⟨i,nx,ok',hi,rfl,rfl,rfl,hnx,hcn,hok',CR'⟩:=hrel;obtain ⟨f0,f1⟩:=HE.out wq CR'.out;by_cases hlt:i < z.cl.length
    ·obtain ⟨⟨at',cs⟩,hx⟩:∃ x,z.cl[i]?=some x:=⟨_,gG hlt⟩;obtain ⟨b0,o0,hA,_,c0,c1⟩:=so_at (HZ.out wq CR'.out).cls hx;rw[hA] at f0;have C2:Hid (Chg (fun _=>False) w1 (wq.alloc (.cells #[.int .i64 at',.int .i64 cs] 194))):=CR'.out.alloc _;have hct:Hid (cntC (z.cl.take (i+1))=nx+(if cs !=-1 then 1 else 0)):=by show _=_;rw[hcn.out];exact countP_take hx
     have hst:Hid (ok'=true->0<=at'->at' < 2147483648->(0 < at'\/0<=cs)->(cs=-1\/cs=nx)->ok=true/\ClUp z.cl (i+1)):=by
      intro h1 h2 h3 h4 h5;refine ⟨(hok'.out h1).1,fun k' c' hk' hc'=>?_⟩;by_cases hki:k' < i
      ·exact (hok'.out h1).2 k' c' hki hc'
      ·obtain rfl:k'=i:=by omega
       rw[hx] at hc';injection hc' with hc';subst hc';exact ⟨h2,h3,h4,by rw[<-hcn.out];exact h5⟩
     clear hx hok' hcn hA;obtain ⟨b1,q1⟩:∃ b,decide (0<=at')=b:=⟨_,rfl⟩;obtain ⟨b2,q2⟩:∃ b,decide (at' < 2147483648)=b:=⟨_,rfl⟩;obtain ⟨b3,q3⟩:∃ b,decide (0 < at')=b:=⟨_,rfl⟩;obtain ⟨b4,q4⟩:∃ b,decide (0<=cs)=b:=⟨_,rfl⟩;obtain ⟨b5,q5⟩:∃ b,(cs ==-1)=b:=⟨_,rfl⟩;obtain ⟨b6,q6⟩:∃ b,(cs ==(nx:Int))=b:=⟨_,rfl⟩;have q5n:(cs !=-1)=!b5:=by rw[<-q5];rfl
     have hst2:Hid (ok'=true->b1=true->b2=true->(b3=true\/b4=true)->(b5=true\/b6=true)->ok=true/\ClUp z.cl (i+1)):=by
      intro h1 h2 h3 h4 h5;rw[<-q1,dT] at h2;rw[<-q2,dT] at h3;rw[<-q3,<-q4,dT,dT] at h4;rw[<-q5,<-q6,beq_iff_eq,beq_iff_eq] at h5;exact hst.out h1 h2 h3 h4 h5
     rw[q5n] at hct;clear hst;cases b5 with
     | false=>
      cases ok' with
      | false=>
       go_wp2_with fail
       go_roundw
       case rel=>exact ⟨i+1,nx+1,false,by omega,by go_num,rfl,by go_num,by omega,zI (by rw[hct.out];rfl),zI nob,C2⟩
       case measure=>(simp[intOf]<;>omega)
      | true=>
       cases b1 with
       | false=>
        go_wp2_with fail
        go_roundw
        case rel=>exact ⟨i+1,nx+1,false,by omega,by go_num,rfl,by go_num,by omega,zI (by rw[hct.out];rfl),zI nob,C2⟩
        case measure=>(simp[intOf]<;>omega)
       | true=>
        cases b2 with
        | false=>
         go_wp2_with fail
         go_roundw
         case rel=>exact ⟨i+1,nx+1,false,by omega,by go_num,rfl,by go_num,by omega,zI (by rw[hct.out];rfl),zI nob,C2⟩
         case measure=>(simp[intOf]<;>omega)
        | true=>
         cases b3 with
         | false=>
          cases b4 with
          | false=>
           go_wp2_with fail
           go_roundw
           case rel=>exact ⟨i+1,nx+1,false,by omega,by go_num,rfl,by go_num,by omega,zI (by rw[hct.out];rfl),zI nob,C2⟩
           case measure=>(simp[intOf]<;>omega)
          | true=>
           cases b6 with
           | false=>
            go_wp2_with fail
            go_roundw
            case rel=>exact ⟨i+1,nx+1,false,by omega,by go_num,rfl,by go_num,by omega,zI (by rw[hct.out];rfl),zI nob,C2⟩
            case measure=>(simp[intOf]<;>omega)
           | true=>
            go_wp2_with fail
            go_roundw
            case rel=>exact ⟨i+1,nx+1,true,by omega,by go_num,rfl,by go_num,by omega,zI (by rw[hct.out];rfl),zI (fun _=>hst2.out rfl rfl rfl (.inr rfl) (.inr rfl)),C2⟩
            case measure=>(simp[intOf]<;>omega)
         | true=>
          cases b6 with
          | false=>
           go_wp2_with fail
           go_roundw
           case rel=>exact ⟨i+1,nx+1,false,by omega,by go_num,rfl,by go_num,by omega,zI (by rw[hct.out];rfl),zI nob,C2⟩
           case measure=>(simp[intOf]<;>omega)
          | true=>
           go_wp2_with fail
           go_roundw
           case rel=>exact ⟨i+1,nx+1,true,by omega,by go_num,rfl,by go_num,by omega,zI (by rw[hct.out];rfl),zI (fun _=>hst2.out rfl rfl rfl (.inl rfl) (.inr rfl)),C2⟩
           case measure=>(simp[intOf]<;>omega)
     | true=>
      cases ok' with
      | false=>
       go_wp2_with fail
       go_roundw
       case rel=>exact ⟨i+1,nx,false,by omega,by go_num,rfl,by go_num,by omega,zI (by rw[hct.out];rfl),zI nob,C2⟩
       case measure=>(simp[intOf]<;>omega)
      | true=>
       cases b1 with
       | false=>
        go_wp2_with fail
        go_roundw
        case rel=>exact ⟨i+1,nx,false,by omega,by go_num,rfl,by go_num,by omega,zI (by rw[hct.out];rfl),zI nob,C2⟩
        case measure=>(simp[intOf]<;>omega)
       | true=>
        cases b2 with
        | false=>
         go_wp2_with fail
         go_roundw
         case rel=>exact ⟨i+1,nx,false,by omega,by go_num,rfl,by go_num,by omega,zI (by rw[hct.out];rfl),zI nob,C2⟩
         case measure=>(simp[intOf]<;>omega)
        | true=>
         cases b3 with
         | false=>
          cases b4 with
          | false=>
           go_wp2_with fail
           go_roundw
           case rel=>exact ⟨i+1,nx,false,by omega,by go_num,rfl,by go_num,by omega,zI (by rw[hct.out];rfl),zI nob,C2⟩
           case measure=>(simp[intOf]<;>omega)
          | true=>
           go_wp2_with fail
           go_roundw
           case rel=>exact ⟨i+1,nx,true,by omega,by go_num,rfl,by go_num,by omega,zI (by rw[hct.out];rfl),zI (fun _=>hst2.out rfl rfl rfl (.inr rfl) (.inl rfl)),C2⟩
           case measure=>(simp[intOf]<;>omega)
         | true=>
          go_wp2_with fail
          go_roundw
          case rel=>exact ⟨i+1,nx,true,by omega,by go_num,rfl,by go_num,by omega,zI (by rw[hct.out];rfl),zI (fun _=>hst2.out rfl rfl rfl (.inl rfl) (.inl rfl)),C2⟩
          case measure=>(simp[intOf]<;>omega)
    ·obtain rfl:i=z.cl.length:=by omega
     obtain ⟨e,qe⟩:∃ e,((nx:Int) ==(k:Int))=e:=⟨_,rfl⟩;have qeN:(nx ==k)=e:=by rw[<-qe,Bool.eq_iff_iff,beq_iff_eq,beq_iff_eq];omega
     have hfin:Hid (ok'=true->e=true->ClOK z.cl n k):=fun h1 h2=>by
      obtain ⟨h3,h4⟩:=hok'.out h1;refine ⟨h4,hok31.out h3,?_⟩;have:=hcn.out;rw[List.take_length] at this;rw[<-this];rw[<-qeN] at h2;simpa using h2
     clear hok' hcn hok31;cases ok' with
     | false=>
      go_wp2
      go_ret;exact ⟨⟨_,rfl,nob⟩,Ct C0.out CR'.out⟩
     | true=>
      have hf2:Hid (e=true->ClOK z.cl n k):=fun h=>hfin.out rfl h
      clear hfin;go_wp2
      go_ret;exact ⟨⟨_,rfl,fun h=>hf2.out h⟩,Ct C0.out CR'.out⟩
end
end Go.Proofs.YthohgagkjnbkbaaGreat
