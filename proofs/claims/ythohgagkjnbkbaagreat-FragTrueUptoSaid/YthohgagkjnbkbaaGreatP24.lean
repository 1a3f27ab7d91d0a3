/- FragTrue, part 24: FrStA FrStB FrStC. Each theorem says what a function does, or a plain fact, under its own premises alone. -/
import Derived.Test.YthohgagkjnbkbaaGreatP21
set_option maxRecDepth 100000
set_option maxHeartbeats 16000000
namespace Go.Proofs.YthohgagkjnbkbaaGreat
section
open Go.RowKit
def wiUp (s n:Int) (j:Nat):Bool:=(List.range j).any fun (i:Nat)=>decide (n<=(i:Int)) && hasB s (i:Int)
def wiB (s n:Int):Bool:=!wiUp s n 31 && (decide (0<=s) && decide (s<=2147483647))
theorem wiUp_succ (s n:Int) (j:Nat):wiUp s n (j+1)=(wiUp s n j || (decide (n<=(j:Int)) && hasB s j)):=by simp[wiUp,List.range_succ]
theorem wiUp_true {s n:Int} {j:Nat} (hj:j < 31) (h:(decide (n<=(j:Int)) && hasB s j)=true):wiB s n=false:=by
 have:wiUp s n 31=true:=by
  unfold wiUp;rw[List.any_eq_true];exact ⟨j,List.mem_range.2 hj,h⟩
 unfold wiB;rw[this];rfl
theorem within_any (w:World) (s n:Int) (hs:inR s):Calls Tryz.prog 108 #[.int .i64 s,.int .i64 n] w fun e w'=>e=.returned (.bool (wiB s n))/\w=w':=by
 have HH:=zI (fun (w':World) (k:Nat)=>refHas_any w' s (k:Int) hs);clear hs;go_enter Tryz.func108,Tryz.ntmps108;go_wp2_with fail
 go_loopw [5] (fun x wr=>∃ j:Nat,j<=31/\x=.int .i64 j/\Hid (wiUp s n j=false)/\w=wr) (fun x _=>31 - (intOf x).toNat)
 case atStart=>exact ⟨0,Nat.zero_le _,rfl,zI rfl,rfl⟩
 case round=>
  obtain ⟨j,hj,rfl,hI,rfl⟩:=hrel;by_cases hlt:j < 31
  ·have d1:decide ((j:Int) < 31)=true:=by rw[dT];omega
   have hs1:=zI (wiUp_succ s n j);have ht:=zI (fun h=>wiUp_true (s:=s) (n:=n) hlt h);have HJ:=zI (HH.out w j);obtain ⟨hb,hhb⟩:∃ b,hasB s (j:Int)=b:=⟨_,rfl⟩;rw[hhb] at HJ hs1 ht;obtain ⟨b1,q1⟩:∃ b,decide (n<=(j:Int))=b:=⟨_,rfl⟩;rw[q1] at hs1 ht;clear hhb;cases b1 with
   | false=>
    have hI2:Hid (wiUp s n (j+1)=false):=by show _=_;rw[hs1.out,hI.out];rfl
    go_wp2_with fail
    go_roundw
    case rel=>exact ⟨j+1,by omega,by go_num,hI2,trivial⟩
    case measure=>(simp[intOf]<;>omega)
   | true=>
    cases hb with
    | false=>
     have hI2:Hid (wiUp s n (j+1)=false):=by show _=_;rw[hs1.out,hI.out];rfl
     go_wp2_with (go_at_call 99;refine HJ.out.mono ?_;rintro e w' ⟨rfl,rfl⟩)
     go_roundw
     case rel=>exact ⟨j+1,by omega,by go_num,hI2,trivial⟩
     case measure=>(simp[intOf]<;>omega)
    | true=>
     have hv:Hid (wiB s n=false):=ht.out rfl;go_wp2_with (go_at_call 99;refine HJ.out.mono ?_;rintro e w' ⟨rfl,rfl⟩)
     go_ret;exact ⟨by rw[hv.out];rfl,rfl⟩
  ·obtain rfl:j=31:=by omega
   obtain ⟨b1,q1⟩:∃ b,decide (0<=s)=b:=⟨_,rfl⟩;obtain ⟨b2,q2⟩:∃ b,decide (s<=2147483647)=b:=⟨_,rfl⟩;have hv:Hid (wiB s n=(b1 && b2)):=by show _=_;unfold wiB;rw[hI.out,q1,q2];rfl
   cases b1<;>cases b2<;>
   (go_wp2
    go_ret;exact ⟨by rw[hv.out];rfl,rfl⟩)
def sumUp (l:List Bool):Nat->Nat
 | 0=>0
 | j+1=>sumUp l j+(if l.getD j false then 2 ^ j else 0)
theorem sumUp_lt (l:List Bool):∀ j,sumUp l j < 2 ^ j
 | 0=>by simp[sumUp]
 | j+1=>by
  have:=sumUp_lt l j;unfold sumUp;rw[Nat.pow_succ];split<;>omega
theorem sum_any (w:World) (A:Option Addr) (c:Nat) (l:List Bool) (hl:l.length<=31) (hR:Rd w w.heap.size A (boolsV l)):Calls Tryz.prog 118 #[.slice A l.length c] w fun e w'=>e=.returned (.int .i64 (sumUp l l.length))/\w=w':=by
 replace hR:=zI hR;go_enter Tryz.func118,Tryz.ntmps118;go_wp2_with fail
 go_loopw [5,3,4] (fun x s p wr=>∃ j:Nat,j<=l.length/\x=.int .i64 j/\s=.int .i64 (sumUp l j)/\p=.int .i64 ((2 ^ j:Nat):Int)/\w=wr) (fun x _ _ _=>l.length - (intOf x).toNat)
 case atStart=>exact ⟨0,Nat.zero_le _,rfl,rfl,rfl,rfl⟩
 case round=>
  obtain ⟨j,hj,rfl,rfl,rfl,rfl⟩:=hrel;by_cases hlt:j < l.length
  ·obtain ⟨x,hx⟩:∃ x,l[j]?=some x:=⟨_,gG hlt⟩;obtain ⟨b0,o0,rfl,_,c0⟩:=bool_at hR.out hx;have hp:2 ^ j<=2 ^ 31:=Nat.pow_le_pow_right (by omega) (by omega);have hsl:=sumUp_lt l j;obtain ⟨s,hs⟩:∃ s,s=sumUp l j:=⟨_,rfl⟩;have h1:Hid (sumUp l (j+1)=s+(if x then 2 ^ j else 0)):=by
    show _=_;rw[hs];show sumUp l j+_=_;rw[List.getD_eq_getElem?_getD,hx];rfl
   obtain ⟨p,hpp⟩:∃ p,p=2 ^ j:=⟨_,rfl⟩;have h2:Hid (2 ^ (j+1)=p * 2):=by show _=_;rw[hpp,Nat.pow_succ]
   rw[<-hpp] at h1 hsl hp;rw[<-hs] at hsl;rw[<-hs,<-hpp];have hp2:p<=2147483648:=by omega
   clear hs hpp hx hp;cases x with
   | true=>
    go_wp2_with fail
    go_roundw
    case rel=>exact ⟨j+1,by omega,by go_num,by rw[h1.out];go_num,by rw[h2.out];go_num,trivial⟩
    case measure=>(simp[intOf]<;>omega)
   | false=>
    go_wp2_with fail
    go_roundw
    case rel=>exact ⟨j+1,by omega,by go_num,by rw[h1.out];go_num,by rw[h2.out];go_num,trivial⟩
    case measure=>(simp[intOf]<;>omega)
  ·obtain rfl:j=l.length:=by omega
   obtain ⟨s,hs⟩:∃ s,s=sumUp l l.length:=⟨_,rfl⟩;rw[<-hs];replace hs:=zI hs;go_wp2
   go_ret;exact ⟨by rw[<-hs.out];rfl,rfl⟩
def puN (s i:Int) (b:Bool):Int:=if 0<=i/\i<=30 then sumUp ((upTo (fun (k:Nat)=>hasB s (k:Int)) 31).set i.toNat b) 31 else sumUp (upTo (fun (k:Nat)=>hasB s (k:Int)) 31) 31
theorem puN_in (s i:Int) (b:Bool):0<=puN s i b/\puN s i b<=2147483647:=by
 unfold puN;split
 ·have:=sumUp_lt ((upTo (fun (k:Nat)=>hasB s (k:Int)) 31).set i.toNat b) 31;omega
 ·have:=sumUp_lt (upTo (fun (k:Nat)=>hasB s (k:Int)) 31) 31;omega
theorem puN_inR (s i:Int) (b:Bool):inR (puN s i b):=by have:=puN_in s i b;unfold inR;omega
theorem inL_own (w:World) (s:Int) (hs:inR s):Calls Tryz.prog 117 #[.int .i64 s] w fun e w'=>∃ v,e=.returned v/\w'.ownsRow w.heap.size 4 1 v 31 (boolsV (upTo (fun (i:Nat)=>hasB s (i:Int)) 31))/\Chg (fun _=>False) w w':=by
 obtain ⟨i,hi,hzz⟩:=Option.map_eq_some_iff.1 bool_info;simp only[Prod.mk.injEq] at hzz;obtain ⟨hz0,hz1,hz2⟩:=hzz;obtain ⟨f,hf⟩:∃ f:Nat->Bool,f=fun (i:Nat)=>hasB s (i:Int):=⟨_,rfl⟩
 rw[<-hf];have HH:=zI (fun (w':World) (k:Nat)=>show Calls Tryz.prog 99 #[.int .i64 s,.int .i64 (k:Int)] w' (fun e w2=>e=.returned (.bool (f k))/\w'=w2) by rw[hf];exact refHas_any w' s k hs);clear hf;go_enter Tryz.func117,Tryz.ntmps117;go_wp2_with fail
 go_loopw [4,3] (fun x v wr=>∃ j:Nat,j<=31/\x=.int .i64 j/\Hid (wr.ownsRow w.heap.size 4 1 v j (boolsV (upTo f j)))/\Hid (Chg (fun _=>False) w wr)) (fun x _ _=>31 - (intOf x).toNat)
 case atStart=>exact ⟨0,Nat.zero_le _,rfl,zI (World.ownsRow_nil _ _ _ _),Chg.refl _ _⟩
 case round=>
  obtain ⟨j,hj,rfl,hO,hC⟩:=hrel;by_cases hlt:j < 31
  ·have d1:decide ((j:Int) < 31)=true:=by rw[dT];omega
   have hs1:=zI (upTo_succ f j);have HJ:=zI (HH.out wr j);obtain ⟨x,hx⟩:∃ x,x=f j:=⟨_,rfl⟩;rw[<-hx] at HJ hs1;clear hx;go_wp2_with (first | (go_at_call 99;refine HJ.out.mono ?_;rintro e w' ⟨rfl,rfl⟩) | (at_builtin;refine wpList_append_own _ rfl (.tmp 9) (.tmp 13) 47 rfl w.heap.size 4 i _ 1 1 Tryz.underlying47 hi hz0 hz1 hz2 rfl (by omega) u3 j (boolsV (upTo f j)) rfl (by exact hO.out.alloc _) ⟨wr.heap.size,0,none⟩ 1 1 [.bool x] rfl rfl (by exact all_new (Blk.new wr 4 #[.bool x])) (by intro u hu;simp at hu;subst hu;rfl) (by unfold maxLen;omega) (by omega) (by have:=hC.out.size;simp;omega) ?_;intro v' w3 hown3 hg3 hat3;have HO3:=zI hown3;have HC3:=zI (app1 hO.out hC.out _ hg3);clear hown3 hg3 hat3))
   go_roundw
   case rel=>exact ⟨j+1,by omega,by go_num,zI (by rw[hs1.out,boolsV_append];exact HO3.out),HC3⟩
   case measure=>(simp[intOf]<;>omega)
  ·obtain rfl:j=31:=by omega
   obtain ⟨A,c,rfl,hqc,hcm⟩:=own_slice hO.out;clear hqc hcm;go_wp2
   go_ret;exact ⟨_,rfl,hO.out,hC.out⟩
theorem rd_setB {w:World} {g c n:Nat} {base:Nat} {l:List Bool} (hO:w.ownsRow base 4 1 (.slice (some ⟨g,0,none⟩) n c) n (boolsV l)) {i:Nat} (hi:i < l.length) (x:Bool):Rd (w.setCell ⟨g,i,none⟩ (.bool x)) (w.setCell ⟨g,i,none⟩ (.bool x)).heap.size (some ⟨g,0,none⟩) (boolsV (l.set i x)):=fun _=>by
 obtain ⟨cur,hb⟩:=own_blk hO (g:=g) rfl;have hR:=own_rd hO;obtain ⟨ad,e,hlt,hc⟩:=hR (by rw[boolsV_len];omega);injection e with e;subst e;refine ⟨_,rfl,by simpa [World.setCell] using hlt,fun j u hu=>?_⟩;rw[add_row,Nat.zero_add];by_cases hij:i=j
 ·subst hij;have hu':u=.bool x:=by
   unfold boolsV at hu;rw[List.getElem?_map,List.getElem?_set_self hi] at hu;simpa using hu.symm
  subst hu';have h1:=hc i (.bool l[i]) (by simp[boolsV,hi]);rw[add_row,Nat.zero_add] at h1;have h2:=hb.set i (.bool x);rw[h2.cell];rw[hb.cell] at h1;have:=(Array.getElem?_eq_some_iff.1 h1).1;simp[this]
 ·rw[World.cell?_setCell_other w _ _ _ (fun e=>by injection e with _ e2 _;omega)];have:=hc j u (by
   unfold boolsV at hu |-;rw[List.getElem?_map,List.getElem?_set_ne hij] at hu;rw[List.getElem?_map];exact hu)
  rwa [add_row,Nat.zero_add] at this
theorem put14_any (w:World) (s i:Int) (b:Bool) (hs:inR s):Calls Tryz.prog 88 #[.int .i64 s,.int .i64 i,.bool b] w fun e w'=>e=.returned (.int .i64 (puN s i b))/\Chg (fun _=>False) w w':=by
 have HI:=zI (inL_own w s hs);obtain ⟨l,hl⟩:∃ l,l=upTo (fun (k:Nat)=>hasB s (k:Int)) 31:=⟨_,rfl⟩;have hll:Hid (l.length=31):=by show _=_;rw[hl];exact upTo_len _ _
 rw[<-hl] at HI;by_cases h0:0<=i/\i<=30
 ·obtain ⟨k,rfl⟩:∃ k:Nat,i=k:=⟨i.toNat,by omega⟩;have hk:k < 31:=by omega
  have hv:Hid (puN s (k:Int) b=(sumUp (l.set k b) 31:Nat)):=by show _=_;unfold puN;rw[if_pos h0,<-hl];rfl
  have d1:decide ((0:Int)<=k)=true:=by rw[dT];omega
  have d2:decide ((k:Int)<=30)=true:=by rw[dT];omega
  clear h0 hl;go_enter Tryz.func88,Tryz.ntmps88;go_wp2_with (first | (go_at_call 117;refine HI.out.mono ?_;rintro e w2 ⟨v,rfl,hO,hC⟩;obtain ⟨g,c,rfl,hg,_,_,hcs⟩:=own_form hO (by omega);have hck:w2.cell? ⟨g,k,none⟩=some (.bool (l[k]'(by rw[hll.out];exact hk))):=by { rw[hcs k hk];simp[boolsV,hll.out,hk] };obtain ⟨cur,hbk⟩:=own_blk hO (g:=g) rfl;have hfr:=hbk.frozen k;have HS:Hid (Calls Tryz.prog 118 #[.slice (some ⟨g,0,none⟩) 31 c] (w2.setCell ⟨g,k,none⟩ (.bool b)) (fun e w'=>e=.returned (.int .i64 (sumUp (l.set k b) 31:Nat))/\(w2.setCell ⟨g,k,none⟩ (.bool b))=w')):=(by { have:=sum_any (w2.setCell ⟨g,k,none⟩ (.bool b)) (some ⟨g,0,none⟩) c (l.set k b) (by rw[List.length_set,hll.out];omega) (rd_setB hO (by rw[hll.out];exact hk) b);rw[List.length_set,hll.out] at this;exact this });have HC2:=zI (hC.setCell (p:=⟨g,k,none⟩) (.inr (hO.lt g rfl).1) (.bool b));clear hO hC hcs hbk hg) | (go_at_call 118;refine HS.out.mono ?_;rintro e w' ⟨rfl,rfl⟩))
  go_ret;exact ⟨by rw[hv.out];rfl,HC2.out⟩
 ·have hv:Hid (puN s i b=(sumUp l 31:Nat)):=by show _=_;unfold puN;rw[if_neg h0,<-hl]
  have HW:Hid (∀ A c w2,Rd w2 w2.heap.size A (boolsV l)->Calls Tryz.prog 118 #[.slice A 31 c] w2 fun e w'=>e=.returned (.int .i64 (sumUp l 31:Nat))/\w2=w'):=fun A c w2 hR=>by
   have:=sum_any w2 A c l (by rw[hll.out];omega) hR;rw[hll.out] at this;exact this
  clear hl;by_cases h1:0<=i
  ·have d1:decide (0<=i)=true:=by simpa using h1
   have d2:decide (i<=30)=false:=by rw[dF];omega
   clear h0 h1;go_enter Tryz.func88,Tryz.ntmps88;go_wp2_with (first | (go_at_call 117;refine HI.out.mono ?_;rintro e w2 ⟨v,rfl,hO,hC⟩;obtain ⟨g,c,rfl,hg,_,_,hcs⟩:=own_form hO (by omega);have HS:=zI (HW.out (some ⟨g,0,none⟩) c w2 (own_rd hO));have HC2:=zI hC;clear hO hC hcs hg) | (go_at_call 118;refine HS.out.mono ?_;rintro e w' ⟨rfl,rfl⟩))
   go_ret;exact ⟨by rw[hv.out];rfl,HC2.out⟩
  ·have d1:decide (0<=i)=false:=by simpa using h1
   clear h0 h1;go_enter Tryz.func88,Tryz.ntmps88;go_wp2_with (first | (go_at_call 117;refine HI.out.mono ?_;rintro e w2 ⟨v,rfl,hO,hC⟩;obtain ⟨g,c,rfl,hg,_,_,hcs⟩:=own_form hO (by omega);have HS:=zI (HW.out (some ⟨g,0,none⟩) c w2 (own_rd hO));have HC2:=zI hC;clear hO hC hcs hg) | (go_at_call 118;refine HS.out.mono ?_;rintro e w' ⟨rfl,rfl⟩))
   go_ret;exact ⟨by rw[hv.out];rfl,HC2.out⟩
structure WrOK (w:World) (m:MC):Prop where
 rd:Rd w w.heap.size m.aE (m.ev.flatMap evC)
 ok:∀ x ∈ m.ev,wrOk x
 n:wrS m.ev<=4
 few:m.ev.length<=6
 sn:∀ x ∈ m.ev,x.sn<=4
theorem WrOK.later {w w':World} {m:MC} (h:WrOK w m) (hc:Chg (fun _=>False) w w'):WrOK w' m:=⟨h.rd.later hc (fun _ h=>h.elim),h.ok,h.n,h.few,h.sn⟩
theorem wrS_app (a b:List EvC):wrS (a++b)=wrS a+wrS b:=by unfold wrS;rw[List.map_append,List.sum_append]
theorem wrS_nn:∀ {l:List EvC},(∀ x ∈ l,wrOk x)->0<=wrS l
 | [],_=>by simp[wrS]
 | x::l,h=>by
  have h1:=wrS_nn (l:=l) (fun y hy=>h y (List.mem_cons_of_mem _ hy));have h2:0<=x.times * (x.sn:Int):=Int.mul_nonneg (h x (List.mem_cons_self ..)).1 (by omega);unfold wrS at h1 |-;simp only[List.map_cons,List.sum_cons];omega
theorem wrS_le {l:List EvC} (h:∀ x ∈ l,wrOk x) (j:Nat):wrS (l.take j)<=wrS l:=by
 have h1:=wrS_app (l.take j) (l.drop j);rw[List.take_append_drop] at h1;have:=wrS_nn (l:=l.drop j) (fun x hx=>h x (List.mem_of_mem_drop hx));omega
theorem left_any (w:World) (m:MC) (A:Option Addr) (c:Nat) (l:List Int) (hW:WrOK w m) (hR:Rd w w.heap.size A (intsV l)) (hinR:∀ x ∈ l,inR x):Calls Tryz.prog 55 #[.agg (mA m),.slice A l.length c] w fun e w'=>(∃ n:Int,e=.returned (.int .i64 n)/\0<=n/\n<=4)/\Chg (fun _=>False) w w':=by
 have hb:=Blk.new w 32 (mA m);have C0:=zI ((Chg.refl (fun _=>False) w).alloc (.cells (mA m) 32));obtain ⟨w1,hw1⟩:∃ w1,w1=w.alloc (.cells (mA m) 32):=⟨_,rfl⟩;rw[<-hw1] at hb C0;have HM:=zI (mcells hb).2.2.2.2.2.1;have HW:=zI (hW.later C0.out);have HR:=zI (hR.later C0.out (fun _ h=>h.elim));have hevl:=hW.few;clear hb hW hR;unfold mA at hw1 |-;go_enter Tryz.func55,Tryz.ntmps55;go_wp2_with fail
 rw[<-hw1];clear hw1;have hn4:Hid (∀ j,wrS (m.ev.take j)<=4):=fun j=>Int.le_trans (wrS_le HW.out.ok j) HW.out.n
 go_loopw [6,5,7] (fun x y _ wr=>∃ (j:Nat) (n:Int),j<=m.ev.length/\x=.int .i64 j/\y=.int .i64 n/\0<=n/\n<=4/\Hid (n<=wrS (m.ev.take j))/\w1=wr) (fun x _ _ _=>m.ev.length - (intOf x).toNat)
 case atStart=>exact ⟨0,0,Nat.zero_le _,rfl,rfl,Int.le_refl _,by omega,zI (by simp[wrS]),rfl⟩
 case round=>
  obtain ⟨j,n,hj,rfl,rfl,h0,h4,hI,rfl⟩:=hrel;have e5:=HM.out;by_cases hlt:j < m.ev.length
  ·obtain ⟨x,hx⟩:∃ x,m.ev[j]?=some x:=⟨_,gG hlt⟩;obtain ⟨b1,o1,hA,_,hc⟩:=row_at (f:=evC) (C:=5) (fun _=>rfl) (by omega) HW.out.rd hx;have c3:=hc 3 _ rfl;have c4:=hc 4 _ rfl;rw[hA] at e5;have hst:=zI (wrS_take hx);have hok:=HW.out.ok x (List.mem_of_getElem? hx);have hsn:=HW.out.sn x (List.mem_of_getElem? hx);have hm4:=zI (hn4.out (j+1));obtain ⟨t,ht⟩:∃ t,t=x.times:=⟨_,rfl⟩;obtain ⟨q,hq⟩:∃ q,q=x.sn:=⟨_,rfl⟩;obtain ⟨ht0,ht3,_⟩:=hok;rw[<-ht] at hst c4 ht0 ht3;rw[<-hq] at hst c3 hsn;clear hc hx ht hq hA;have hq0:0<=t * (q:Int):=Int.mul_nonneg ht0 (by omega);have KEY:Hid (∀ (k nn:Int),0<=k->(k<=t/\nn<=n+k * (q:Int)\/nn=n)->t<=k->nn<=wrS (m.ev.take (j+1))):=by
    intro k nn hk h1 h2;rw[hst.out];have:=hI.out;rcases h1 with ⟨h1,h3⟩ | h1
    ·have:k=t:=by omega
     subst this;omega
    ·omega
   by_cases hjl:j < l.length
   ·obtain ⟨v,hv⟩:∃ v,l[j]?=some v:=⟨_,gG hjl⟩;obtain ⟨b0,o0,rfl,_,c0⟩:=int_at HR.out hv;have dj:decide ((j:Int) < (l.length:Int))=true:=by rw[dT];omega
    have djN:decide (j < l.length)=true:=by rw[dT];omega
    have hvr:=hinR v (List.mem_of_getElem? hv);unfold inR at hvr;clear hv;by_cases hv0:0 < v
    ·have dv:decide (0 < v)=true:=by simpa using hv0
     go_wp2_with fail
     go_loopw [7,5] (fun x y wr=>∃ (k nn:Int),x=.int .i64 k/\y=.int .i64 nn/\0<=k/\k<=9223372036854775807/\0<=nn/\nn<=4/\Hid (k<=t/\nn<=n+k * (q:Int)\/nn=n)/\w1=wr) (fun x _ _=>(t - intOf x).toNat)
     case atStart=>exact ⟨v,n,rfl,rfl,by omega,by omega,h0,h4,zI (.inr rfl),rfl⟩
     case round=>
      obtain ⟨k,nn,rfl,rfl,hk0,hkm,hn0,hn4',hJ,rfl⟩:=hrel;by_cases hkt:k < t
      ·have dk:decide (k < t)=true:=by simpa using hkt
       have hJ2:Hid (k+1<=t/\nn+(q:Int)<=n+(k+1) * (q:Int)):=by
        refine ⟨by omega,?_⟩;have e:(k+1) * (q:Int)=k * (q:Int)+q:=by rw[Int.add_mul,Int.one_mul]
        have hkq:0<=k * (q:Int):=Int.mul_nonneg hk0 (by omega);rcases hJ.out with h | h<;>omega
       have hle:nn+(q:Int)<=4:=by
        have h1:=hJ2.out.2;have h2:(k+1) * (q:Int)<=t * (q:Int):=Int.mul_le_mul_of_nonneg_right (by omega) (by omega);have h3:=hst.out;have h4:=hm4.out;have h5:=hI.out;omega
       clear hq0;go_wp2_with fail
       go_roundw
       case rel=>exact ⟨k+1,nn+q,by go_num,by go_num,by omega,by omega,by omega,by omega,zI (.inl hJ2.out),trivial⟩
       case measure=>(simp[intOf]<;>omega)
      ·have dk:decide (k < t)=false:=by simpa using hkt
       have hfin:=zI (KEY.out k nn hk0 hJ.out (by omega));clear hq0;go_wp2_with fail
       go_roundw
       case rel=>exact ⟨j+1,nn,by omega,by go_num,rfl,hn0,hn4',hfin,trivial⟩
       case measure=>(simp[intOf]<;>omega)
    ·have dv:decide (0 < v)=false:=by simpa using hv0
     go_wp2_with fail
     go_loopw [7,5] (fun x y wr=>∃ (k nn:Int),x=.int .i64 k/\y=.int .i64 nn/\0<=k/\k<=9223372036854775807/\0<=nn/\nn<=4/\Hid (k<=t/\nn<=n+k * (q:Int)\/nn=n)/\w1=wr) (fun x _ _=>(t - intOf x).toNat)
     case atStart=>exact ⟨0,n,rfl,rfl,by omega,by omega,h0,h4,zI (.inr rfl),rfl⟩
     case round=>
      obtain ⟨k,nn,rfl,rfl,hk0,hkm,hn0,hn4',hJ,rfl⟩:=hrel;by_cases hkt:k < t
      ·have dk:decide (k < t)=true:=by simpa using hkt
       have hJ2:Hid (k+1<=t/\nn+(q:Int)<=n+(k+1) * (q:Int)):=by
        refine ⟨by omega,?_⟩;have e:(k+1) * (q:Int)=k * (q:Int)+q:=by rw[Int.add_mul,Int.one_mul]
        have hkq:0<=k * (q:Int):=Int.mul_nonneg hk0 (by omega);rcases hJ.out with h | h<;>omega
       have hle:nn+(q:Int)<=4:=by
        have h1:=hJ2.out.2;have h2:(k+1) * (q:Int)<=t * (q:Int):=Int.mul_le_mul_of_nonneg_right (by omega) (by omega);have h3:=hst.out;have h4:=hm4.out;have h5:=hI.out;omega
       clear hq0;go_wp2_with fail
       go_roundw
       case rel=>exact ⟨k+1,nn+q,by go_num,by go_num,by omega,by omega,by omega,by omega,zI (.inl hJ2.out),trivial⟩
       case measure=>(simp[intOf]<;>omega)
      ·have dk:decide (k < t)=false:=by simpa using hkt
       have hfin:=zI (KEY.out k nn hk0 hJ.out (by omega));clear hq0;go_wp2_with fail
       go_roundw
       case rel=>exact ⟨j+1,nn,by omega,by go_num,rfl,hn0,hn4',hfin,trivial⟩
       case measure=>(simp[intOf]<;>omega)
   ·have dj:decide ((j:Int) < (l.length:Int))=false:=by rw[dF];omega
    have djN:decide (j < l.length)=false:=by rw[dF];omega
    go_wp2_with fail
    go_loopw [7,5] (fun x y wr=>∃ (k nn:Int),x=.int .i64 k/\y=.int .i64 nn/\0<=k/\k<=9223372036854775807/\0<=nn/\nn<=4/\Hid (k<=t/\nn<=n+k * (q:Int)\/nn=n)/\w1=wr) (fun x _ _=>(t - intOf x).toNat)
    case atStart=>exact ⟨0,n,rfl,rfl,by omega,by omega,h0,h4,zI (.inr rfl),rfl⟩
    case round=>
     obtain ⟨k,nn,rfl,rfl,hk0,hkm,hn0,hn4',hJ,rfl⟩:=hrel;by_cases hkt:k < t
     ·have dk:decide (k < t)=true:=by simpa using hkt
      have hJ2:Hid (k+1<=t/\nn+(q:Int)<=n+(k+1) * (q:Int)):=by
       refine ⟨by omega,?_⟩;have e:(k+1) * (q:Int)=k * (q:Int)+q:=by rw[Int.add_mul,Int.one_mul]
       have hkq:0<=k * (q:Int):=Int.mul_nonneg hk0 (by omega);rcases hJ.out with h | h<;>omega
      have hle:nn+(q:Int)<=4:=by
       have h1:=hJ2.out.2;have h2:(k+1) * (q:Int)<=t * (q:Int):=Int.mul_le_mul_of_nonneg_right (by omega) (by omega);have h3:=hst.out;have h4:=hm4.out;have h5:=hI.out;omega
      clear hq0;go_wp2_with fail
      go_roundw
      case rel=>exact ⟨k+1,nn+q,by go_num,by go_num,by omega,by omega,by omega,by omega,zI (.inl hJ2.out),trivial⟩
      case measure=>(simp[intOf]<;>omega)
     ·have dk:decide (k < t)=false:=by simpa using hkt
      have hfin:=zI (KEY.out k nn hk0 hJ.out (by omega));clear hq0;go_wp2_with fail
      go_roundw
      case rel=>exact ⟨j+1,nn,by omega,by go_num,rfl,hn0,hn4',hfin,trivial⟩
      case measure=>(simp[intOf]<;>omega)
  ·obtain rfl:j=m.ev.length:=by omega
   clear hI;go_wp2
   go_ret;exact ⟨⟨n,rfl,h0,h4⟩,C0.out⟩
def CdOK (w:World) (v:Value):Prop:=∃ (A:Option Addr) (c:Nat) (l:List Nm.Inst),v=.slice A l.length c/\l.length<=100/\Rd w w.heap.size A (l.flatMap instV7)
theorem mi_cond {w:World} {m:MC} {X:MX} (hX:XOK w m X) {k:Nat} {x:MiC} (hx:m.mi[k]?=some x):CdOK w (.slice x.ia x.il x.ic):=by
 obtain ⟨l,hl⟩:∃ l,X.miI[k]?=some l:=⟨_,gG (by rw[hX.miN];exact (List.getElem?_eq_some_iff.1 hx).1)⟩;obtain ⟨h1,h2,h3⟩:=hX.mi k x l hx hl;exact ⟨_,_,l,by rw[h1],h2,h3⟩
theorem gu_cond {w:World} {m:MC} {X:MX} (hX:XOK w m X) {k:Nat} {x:GuC} (hx:m.gu[k]?=some x):CdOK w (.slice x.ia x.il x.ic):=by
 obtain ⟨l,hl⟩:∃ l,X.guI[k]?=some l:=⟨_,gG (by rw[hX.guN];exact (List.getElem?_eq_some_iff.1 hx).1)⟩;obtain ⟨h1,h2,h3⟩:=hX.gu k x l hx hl;exact ⟨_,_,l,by rw[h1],h2,h3⟩
theorem CdOK.later {w w':World} {v:Value} (h:CdOK w v) (hc:Chg (fun _=>False) w w'):CdOK w' v:=let ⟨A,c,l,h1,h2,h3⟩:=h;⟨A,c,l,h1,h2,h3.later hc (fun _ h=>h.elim)⟩
theorem holds_cd {w:World} {v:Value} {s:SC} {vs:List Int} (h:CdOK w v) (hS:SOK w s) (hV:VOK w s vs):∃ (b:Bool) (n:Int),Calls Tryz.prog 98 #[v,.agg (sA s)] w fun e w'=>e=.returned (.tuple #[.bool b,.int .i64 n])/\Chg (fun _=>False) w w':=by
 obtain ⟨A,c,l,rfl,h2,h3⟩:=h;exact ⟨_,_,holds16_any w A c l s vs (by omega) h3 hS hV⟩
def inB18v (i:Int) (m:Nat):Bool:=decide (0<=i/\i < (m:Int))
theorem inB18_yes {i:Int} {m:Nat} (h:inB18v i m=true):∃ k:Nat,i=k/\k < m:=by
 have:=of_decide_eq_true h;exact ⟨i.toNat,by omega,by omega⟩
theorem inB18 (w:World) (i:Int) (m:Nat) {b:Bool} (hb:inB18v i m=b):Calls Tryz.prog 119 #[.int .i64 i,.int .i64 m] w fun e w'=>e=.returned (.bool b)/\w=w':=by
 subst hb;exact in18_any w i m
theorem cond18_any (w:World) (m:MC) (X:MX) (b:Bool) (n:Int) (hX:XOK w m X):Calls Tryz.prog 90 #[.agg (mA m),.agg #[.bool b,.int .i64 n]] w fun e w'=>(∃ v,e=.returned v/\CdOK w' v)/\Chg (fun _=>False) w w':=by
 obtain ⟨h1,h2⟩:=cells2 w 32 130 (mA m) #[.bool b,.int .i64 n];have hC:=zI (chg2 w (.cells (mA m) 32) (.cells #[.bool b,.int .i64 n] 130));have hX2:=zI (hX.later hC.out);obtain ⟨-,-,-,-,-,-,e6,e7,-,-⟩:=mcells h1;have f0:=h2.cell 0;have f1:=h2.cell 1;simp only[List.getElem?_toArray,List.getElem?_cons_zero,List.getElem?_cons_succ] at f0 f1;obtain ⟨w1,hw1⟩:∃ w1,w1=((w.alloc (.cells (mA m) 32)).alloc (.cells #[.bool b,.int .i64 n] 130)):=⟨_,rfl⟩;rw[<-hw1] at hC hX2 e6 e7 f0 f1;unfold mA at hw1 |-;clear h1 h2 hX;have hnil:Hid (∀ w,CdOK w (.slice none 0 0)):=fun w=>⟨none,0,[],rfl,by simp,fun h=>by simp at h⟩
 cases b with
 | true=>
  obtain ⟨c,qc⟩:∃ c,inB18v n m.mi.length=c:=⟨_,rfl⟩;have HI:=zI (fun w'=>inB18 w' n m.mi.length qc);cases c with
  | false=>
   clear qc;go_enter Tryz.func90,Tryz.ntmps90;go_wp2_with fail
   rw[<-hw1];clear hw1;go_wp2_with (go_at_call 119;refine (HI.out _).mono ?_;rintro e w' ⟨rfl,rfl⟩)
   go_ret;exact ⟨⟨_,rfl,hnil.out _⟩,hC.out⟩
  | true=>
   obtain ⟨k,rfl,hk⟩:=inB18_yes qc;obtain ⟨x,hx⟩:∃ x,m.mi[k]?=some x:=⟨_,gG hk⟩;obtain ⟨b0,o0,hA,_,hc⟩:=row_at (f:=miC) (C:=5) (fun _=>rfl) (by omega) hX2.out.mo.mi hx;have c0:=hc 3 _ rfl;have hcd:=zI (mi_cond hX2.out hx);rw[hA] at e7 hw1;rw[hA];clear hc hx qc hA;go_enter Tryz.func90,Tryz.ntmps90;go_wp2_with fail
   rw[<-hw1];clear hw1;go_wp2_with (go_at_call 119;refine (HI.out _).mono ?_;rintro e w' ⟨rfl,rfl⟩)
   go_ret;exact ⟨⟨_,rfl,hcd.out⟩,hC.out⟩
 | false=>
  obtain ⟨c,qc⟩:∃ c,inB18v n m.gu.length=c:=⟨_,rfl⟩;have HI:=zI (fun w'=>inB18 w' n m.gu.length qc);cases c with
  | false=>
   clear qc;go_enter Tryz.func90,Tryz.ntmps90;go_wp2_with fail
   rw[<-hw1];clear hw1;go_wp2_with (go_at_call 119;refine (HI.out _).mono ?_;rintro e w' ⟨rfl,rfl⟩)
   go_ret;exact ⟨⟨_,rfl,hnil.out _⟩,hC.out⟩
  | true=>
   obtain ⟨k,rfl,hk⟩:=inB18_yes qc;obtain ⟨x,hx⟩:∃ x,m.gu[k]?=some x:=⟨_,gG hk⟩;obtain ⟨b0,o0,hA,_,hc⟩:=row_at (f:=guC) (C:=3) (fun _=>rfl) (by omega) hX2.out.mo.gu hx;have c0:=hc 2 _ rfl;have hcd:=zI (gu_cond hX2.out hx);rw[hA] at e6 hw1;rw[hA];clear hc hx qc hA;go_enter Tryz.func90,Tryz.ntmps90;go_wp2_with fail
   rw[<-hw1];clear hw1;go_wp2_with (go_at_call 119;refine (HI.out _).mono ?_;rintro e w' ⟨rfl,rfl⟩)
   go_ret;exact ⟨⟨_,rfl,hcd.out⟩,hC.out⟩
end
end Go.Proofs.YthohgagkjnbkbaaGreat
