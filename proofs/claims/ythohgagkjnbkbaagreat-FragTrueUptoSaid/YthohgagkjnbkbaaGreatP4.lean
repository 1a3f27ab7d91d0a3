/- FragTrue, part 4: FrSorted Any RefStuck TrPlain TrArity. Each theorem says what a function does, or a plain fact, under its own premises alone. -/
import Derived.Test.YthohgagkjnbkbaaGreatP3
set_option maxRecDepth 100000
set_option maxHeartbeats 16000000
namespace Go.Proofs.YthohgagkjnbkbaaGreat
section
open Go.RowKit
def InR (w0:World) (l:List Int) (e:Ending) (w':World):Prop:=
 ∃ A c,e=.returned (.slice A l.length c)/\l.length<=maxLen/\Rd w' w'.heap.size A (intsV l)/\Chg (fun _=>False) w0 w'
theorem sorted_any (w:World) (l:List Int) (A:Option Addr) (c:Nat) (hR:Rd w w.heap.size A (intsV l)) (hn:l.length<=100000):Calls Tryz.prog 26 #[.slice A l.length c] w fun e w'=>InR w (srt l) e w':=by
 obtain ⟨i,hi,hz0,hz1,hz2⟩:=info_3 int64_info;unfold srt;replace hR:=zI hR;go_enter Tryz.func26,Tryz.ntmps26;go_wp2_with fail
 go_loopw [4,3,5,6,7] (fun x v _ _ _ wr=>∃ (j:Nat) (Ao:Option Addr) (co:Nat),j<=l.length/\x=.int .i64 j/\v=.slice Ao (srtUp l j).length co/\Hid (Rd wr wr.heap.size Ao (intsV (srtUp l j)))/\Hid (Chg (fun _=>False) w wr)) (fun x _ _ _ _ _=>l.length - (intOf x).toNat)
 case atStart=>exact ⟨0,none,0,Nat.zero_le _,rfl,rfl,fun h=>by simp[srtUp,intsV] at h,Chg.refl _ _⟩
 case round=>
  obtain ⟨j,Ao,co,hj,rfl,rfl,hO,hC⟩:=hrel;by_cases hlt:j < l.length
  ·obtain ⟨x,hx⟩:∃ x,l[j]?=some x:=⟨_,gG hlt⟩;have hs:=zI (srtUp_succ hx);have hol:=srtUp_le l j hj;obtain ⟨o,ho⟩:∃ o,o=srtUp l j:=⟨_,rfl⟩;rw[<-ho] at hO hs hol |-;clear ho;replace hx:=zI hx;go_wp2_with fail
   go_loopw [7,5,6] (fun y v t wk=>∃ k:Nat,k<=o.length/\y=.int .i64 k/\t=.bool (insUp x o k).2/\Hid (wk.ownsRow wr.heap.size 2 1 v (insUp x o k).1.length (intsV (insUp x o k).1))/\Hid (Chg (fun _=>False) wr wk)) (fun y _ _ _=>o.length - (intOf y).toNat)
   case atStart=>exact ⟨0,Nat.zero_le _,rfl,rfl,zI (World.ownsRow_nil _ _ _ _),Chg.refl _ _⟩
   case round=>
    obtain ⟨k,hk,rfl,rfl,hN,hC2⟩:=hrel;by_cases hkl:k < o.length
    ·obtain ⟨y,hy⟩:∃ y,o[k]?=some y:=⟨_,gG hkl⟩;have hs2:=zI (insUp_succ (x:=x) hy);have hle:=insUp_le x o k hk;obtain ⟨b0,o0,rfl,_,hc0⟩:=int_at (hR.out.later (Ct hC.out hC2.out) (fun _ h=>h.elim)) hx.out;obtain ⟨b1,o1,rfl,_,hc1⟩:=int_at (hO.out.later hC2.out (fun _ h=>h.elim)) hy;obtain ⟨p,hp⟩:∃ p,p=insUp x o k:=⟨_,rfl⟩;rw[<-hp] at hN hs2 hle |-;clear hp;replace hy:=zI hy;obtain ⟨a,b⟩:=p;simp only at hN hle |-;have hal:a.length<=100001:=by split at hle<;>omega
     clear hle;cases b with
     | true=>
      by_cases hxy:y=x
      ·have e1:(y ==x)=true:=by rw[beq_iff_eq];exact hxy
       have hs3:=zI (show insUp x o (k+1)=(a,true) by rw[hs2.out];simp[insS,hxy]);clear hs2 hxy;go_wp2_with fail
       go_quiet (fail)
       obtain ⟨w3,hw3⟩:∃ w3,w3=wr.drewN nq:=⟨_,rfl⟩;replace hc0:w3.cell? ⟨b0,o0+j,none⟩=some (.int .i64 x):=by rw[hw3];exact hc0
       replace hc1:w3.cell? ⟨b1,o1+k,none⟩=some (.int .i64 y):=by rw[hw3];exact hc1
       replace hN:=zI (show w3.ownsRow _ 2 1 _ _ _ by rw[hw3];exact hN.out);replace hC2:=zI (show Chg (fun _=>False) _ w3 by rw[hw3];exact hC2.out.drewN nq);rw[<-hw3];clear hw3;go_wp2_with fail
       go_quiet (fail)
       obtain ⟨w4,hw4⟩:∃ w4,w4=w3.drewN nq:=⟨_,rfl⟩;replace hc0:w4.cell? ⟨b0,o0+j,none⟩=some (.int .i64 x):=by rw[hw4];exact hc0
       replace hc1:w4.cell? ⟨b1,o1+k,none⟩=some (.int .i64 y):=by rw[hw4];exact hc1
       replace hN:=zI (show w4.ownsRow _ 2 1 _ _ _ by rw[hw4];exact hN.out);replace hC2:=zI (show Chg (fun _=>False) _ w4 by rw[hw4];exact hC2.out.drewN nq);rw[<-hw4];clear hw4;go_wp2_with fail
       go_roundw
       case rel=>exact ⟨k+1,by omega,by go_num,by rw[hs3.out],by rw[hs3.out];exact hN,hC2⟩
       case measure=>(simp[intOf]<;>omega)
      ·have e1:(y ==x)=false:=by rw[bF];exact hxy
       have hs3:=zI (show insUp x o (k+1)=(a++[y],true) by rw[hs2.out];simp[insS,hxy]);clear hs2 hxy;go_wp2_with fail
       go_quiet (fail)
       obtain ⟨w3,hw3⟩:∃ w3,w3=wr.drewN nq:=⟨_,rfl⟩;replace hc0:w3.cell? ⟨b0,o0+j,none⟩=some (.int .i64 x):=by rw[hw3];exact hc0
       replace hc1:w3.cell? ⟨b1,o1+k,none⟩=some (.int .i64 y):=by rw[hw3];exact hc1
       replace hN:=zI (show w3.ownsRow _ 2 1 _ _ _ by rw[hw3];exact hN.out);replace hC2:=zI (show Chg (fun _=>False) _ w3 by rw[hw3];exact hC2.out.drewN nq);rw[<-hw3];clear hw3;go_wp2_with fail
       go_quiet (fail)
       obtain ⟨w4,hw4⟩:∃ w4,w4=w3.drewN nq:=⟨_,rfl⟩;replace hc0:w4.cell? ⟨b0,o0+j,none⟩=some (.int .i64 x):=by rw[hw4];exact hc0
       replace hc1:w4.cell? ⟨b1,o1+k,none⟩=some (.int .i64 y):=by rw[hw4];exact hc1
       replace hN:=zI (show w4.ownsRow _ 2 1 _ _ _ by rw[hw4];exact hN.out);replace hC2:=zI (show Chg (fun _=>False) _ w4 by rw[hw4];exact hC2.out.drewN nq);rw[<-hw4];clear hw4;go_wp2_with (at_builtin;refine wpList_append_own _ rfl (.tmp 49) (.tmp 54) 23 rfl _ 2 i _ 1 8 Tryz.underlying23 hi hz0 hz1 hz2 rfl (by omega) u5 a.length (intsV a) rfl (by exact hN.out.alloc _) ⟨w4.heap.size,0,none⟩ 1 1 [.int .i64 y] rfl rfl (by exact all_new (Blk.new w4 2 #[.int .i64 y])) (by intro u hu;simp at hu;subst hu;rfl) (by unfold maxLen;omega) (by omega) (by have:=hC2.out.size;simp;omega) ?_;intro v' w5 hown3 hg3 hat3;have HO3:=zI hown3;have HC3:=zI (app1 hN.out hC2.out _ hg3);clear hown3 hg3 hat3)
       go_roundw
       case rel=>exact ⟨k+1,by omega,by go_num,by rw[hs3.out],by rw[hs3.out,List.length_append,intsV_append];exact HO3,HC3⟩
       case measure=>(simp[intOf]<;>omega)
     | false=>
      by_cases hxl:x<=y
      ·have d1:decide (x<=y)=true:=by rw[dT];exact hxl
       by_cases hxy:y=x
       ·have e1:(y ==x)=true:=by rw[beq_iff_eq];exact hxy
        have hs3:=zI (show insUp x o (k+1)=(a++[x],true) by rw[hs2.out];simp[insS,hxy]);clear hs2 hxy hxl;go_wp2_with fail
        go_quiet (fail)
        obtain ⟨w3,hw3⟩:∃ w3,w3=wr.drewN nq:=⟨_,rfl⟩;replace hc0:w3.cell? ⟨b0,o0+j,none⟩=some (.int .i64 x):=by rw[hw3];exact hc0
        replace hc1:w3.cell? ⟨b1,o1+k,none⟩=some (.int .i64 y):=by rw[hw3];exact hc1
        replace hN:=zI (show w3.ownsRow _ 2 1 _ _ _ by rw[hw3];exact hN.out);replace hC2:=zI (show Chg (fun _=>False) _ w3 by rw[hw3];exact hC2.out.drewN nq);rw[<-hw3];clear hw3;go_wp2_with (at_builtin;refine wpList_append_own _ rfl (.tmp 33) (.tmp 38) 23 rfl _ 2 i _ 1 8 Tryz.underlying23 hi hz0 hz1 hz2 rfl (by omega) u5 a.length (intsV a) rfl (by exact hN.out.alloc _) ⟨w3.heap.size,0,none⟩ 1 1 [.int .i64 x] rfl rfl (by exact all_new (Blk.new w3 2 #[.int .i64 x])) (by intro u hu;simp at hu;subst hu;rfl) (by unfold maxLen;omega) (by omega) (by have:=hC2.out.size;simp;omega) ?_;intro v' w5 hown3 hg3 hat3;have HO3:=zI hown3;have HC3:=zI (app1 hN.out hC2.out _ hg3);clear hown3 hg3 hat3)
        have q0:=int_at (hR.out.later (Ct hC.out HC3.out) (fun _ h=>h.elim)) hx.out;have q1:=int_at (hO.out.later HC3.out (fun _ h=>h.elim)) hy.out;obtain ⟨b2,o2,e2,_,q0⟩:=q0;injection e2 with e2;injection e2 with e3 e4;subst e3;subst e4;obtain ⟨b2,o2,e2,_,q1⟩:=q1;injection e2 with e2;injection e2 with e3 e4;subst e3;subst e4;have hax:(a++[x]).length=a.length+1:=by simp
        replace hN:=zI (show w5.ownsRow _ 2 1 v' (a.length+1) (intsV (a++[x])) by rw[intsV_append];exact HO3.out);clear hc0 hc1 HO3 hC2;have hc0:=q0;have hc1:=q1;have hC2:=HC3;clear q0 q1 HC3;go_wp2_with fail
        go_quiet (fail)
        obtain ⟨w6,hw6⟩:∃ w6,w6=w5.drewN nq:=⟨_,rfl⟩;replace hc0:w6.cell? ⟨b0,o0+j,none⟩=some (.int .i64 x):=by rw[hw6];exact hc0
        replace hc1:w6.cell? ⟨b1,o1+k,none⟩=some (.int .i64 y):=by rw[hw6];exact hc1
        replace hN:=zI (show w6.ownsRow _ 2 1 _ _ _ by rw[hw6];exact hN.out);replace hC2:=zI (show Chg (fun _=>False) _ w6 by rw[hw6];exact hC2.out.drewN nq);rw[<-hw6];clear hw6;go_wp2_with fail
        go_roundw
        case rel=>exact ⟨k+1,by omega,by go_num,by rw[hs3.out],by rw[hs3.out,hax];exact hN,hC2⟩
        case measure=>(simp[intOf]<;>omega)
       ·have e1:(y ==x)=false:=by rw[bF];exact hxy
        have hs3:=zI (show insUp x o (k+1)=(a++[x]++[y],true) by rw[hs2.out];simp[insS,hxl,hxy]);clear hs2 hxy hxl;go_wp2_with fail
        go_quiet (fail)
        obtain ⟨w3,hw3⟩:∃ w3,w3=wr.drewN nq:=⟨_,rfl⟩;replace hc0:w3.cell? ⟨b0,o0+j,none⟩=some (.int .i64 x):=by rw[hw3];exact hc0
        replace hc1:w3.cell? ⟨b1,o1+k,none⟩=some (.int .i64 y):=by rw[hw3];exact hc1
        replace hN:=zI (show w3.ownsRow _ 2 1 _ _ _ by rw[hw3];exact hN.out);replace hC2:=zI (show Chg (fun _=>False) _ w3 by rw[hw3];exact hC2.out.drewN nq);rw[<-hw3];clear hw3;go_wp2_with (at_builtin;refine wpList_append_own _ rfl (.tmp 33) (.tmp 38) 23 rfl _ 2 i _ 1 8 Tryz.underlying23 hi hz0 hz1 hz2 rfl (by omega) u5 a.length (intsV a) rfl (by exact hN.out.alloc _) ⟨w3.heap.size,0,none⟩ 1 1 [.int .i64 x] rfl rfl (by exact all_new (Blk.new w3 2 #[.int .i64 x])) (by intro u hu;simp at hu;subst hu;rfl) (by unfold maxLen;omega) (by omega) (by have:=hC2.out.size;simp;omega) ?_;intro v' w5 hown3 hg3 hat3;have HO3:=zI hown3;have HC3:=zI (app1 hN.out hC2.out _ hg3);clear hown3 hg3 hat3)
        have q0:=int_at (hR.out.later (Ct hC.out HC3.out) (fun _ h=>h.elim)) hx.out;have q1:=int_at (hO.out.later HC3.out (fun _ h=>h.elim)) hy.out;obtain ⟨b2,o2,e2,_,q0⟩:=q0;injection e2 with e2;injection e2 with e3 e4;subst e3;subst e4;obtain ⟨b2,o2,e2,_,q1⟩:=q1;injection e2 with e2;injection e2 with e3 e4;subst e3;subst e4;have hax:(a++[x]).length=a.length+1:=by simp
        replace hN:=zI (show w5.ownsRow _ 2 1 v' (a.length+1) (intsV (a++[x])) by rw[intsV_append];exact HO3.out);clear hc0 hc1 HO3 hC2;have hc0:=q0;have hc1:=q1;have hC2:=HC3;clear q0 q1 HC3;obtain ⟨vv,hvv⟩:∃ vv,vv=v':=⟨_,rfl⟩;rw[<-hvv] at hN |-;clear hvv;go_wp2_with fail
        go_quiet (fail)
        obtain ⟨w6,hw6⟩:∃ w6,w6=w5.drewN nq:=⟨_,rfl⟩;replace hc0:w6.cell? ⟨b0,o0+j,none⟩=some (.int .i64 x):=by rw[hw6];exact hc0
        replace hc1:w6.cell? ⟨b1,o1+k,none⟩=some (.int .i64 y):=by rw[hw6];exact hc1
        replace hN:=zI (show w6.ownsRow _ 2 1 _ _ _ by rw[hw6];exact hN.out);replace hC2:=zI (show Chg (fun _=>False) _ w6 by rw[hw6];exact hC2.out.drewN nq);rw[<-hw6];clear hw6;go_wp2_with (at_builtin;refine wpList_append_own _ rfl (.tmp 49) (.tmp 54) 23 rfl _ 2 i _ 1 8 Tryz.underlying23 hi hz0 hz1 hz2 rfl (by omega) vv (a.length+1) (intsV (a++[x])) rfl (by exact hN.out.alloc _) ⟨w6.heap.size,0,none⟩ 1 1 [.int .i64 y] rfl rfl (by exact all_new (Blk.new w6 2 #[.int .i64 y])) (by intro u hu;simp at hu;subst hu;rfl) (by unfold maxLen;omega) (by omega) (by have:=hC2.out.size;simp;omega) ?_;intro v' w7 hown3 hg3 hat3;have HO3:=zI hown3;have HC3:=zI (app1 hN.out hC2.out _ hg3);clear hown3 hg3 hat3)
        go_roundw
        case rel=>exact ⟨k+1,by omega,by go_num,by rw[hs3.out],by rw[hs3.out,List.length_append,intsV_append,hax];exact HO3,HC3⟩
        case measure=>(simp[intOf]<;>omega)
      ·have d1:decide (x<=y)=false:=by rw[dF];exact hxl
       have hxy:y ≠ x:=by omega
       have e1:(y ==x)=false:=by rw[bF];exact hxy
       have hs3:=zI (show insUp x o (k+1)=(a++[y],false) by rw[hs2.out];simp[insS,hxl,hxy]);clear hs2 hxy hxl;go_wp2_with fail
       go_quiet (fail)
       obtain ⟨w3,hw3⟩:∃ w3,w3=wr.drewN nq:=⟨_,rfl⟩;replace hc0:w3.cell? ⟨b0,o0+j,none⟩=some (.int .i64 x):=by rw[hw3];exact hc0
       replace hc1:w3.cell? ⟨b1,o1+k,none⟩=some (.int .i64 y):=by rw[hw3];exact hc1
       replace hN:=zI (show w3.ownsRow _ 2 1 _ _ _ by rw[hw3];exact hN.out);replace hC2:=zI (show Chg (fun _=>False) _ w3 by rw[hw3];exact hC2.out.drewN nq);rw[<-hw3];clear hw3;go_wp2_with fail
       go_quiet (fail)
       obtain ⟨w4,hw4⟩:∃ w4,w4=w3.drewN nq:=⟨_,rfl⟩;replace hc0:w4.cell? ⟨b0,o0+j,none⟩=some (.int .i64 x):=by rw[hw4];exact hc0
       replace hc1:w4.cell? ⟨b1,o1+k,none⟩=some (.int .i64 y):=by rw[hw4];exact hc1
       replace hN:=zI (show w4.ownsRow _ 2 1 _ _ _ by rw[hw4];exact hN.out);replace hC2:=zI (show Chg (fun _=>False) _ w4 by rw[hw4];exact hC2.out.drewN nq);rw[<-hw4];clear hw4;go_wp2_with (at_builtin;refine wpList_append_own _ rfl (.tmp 49) (.tmp 54) 23 rfl _ 2 i _ 1 8 Tryz.underlying23 hi hz0 hz1 hz2 rfl (by omega) u5 a.length (intsV a) rfl (by exact hN.out.alloc _) ⟨w4.heap.size,0,none⟩ 1 1 [.int .i64 y] rfl rfl (by exact all_new (Blk.new w4 2 #[.int .i64 y])) (by intro u hu;simp at hu;subst hu;rfl) (by unfold maxLen;omega) (by omega) (by have:=hC2.out.size;simp;omega) ?_;intro v' w5 hown3 hg3 hat3;have HO3:=zI hown3;have HC3:=zI (app1 hN.out hC2.out _ hg3);clear hown3 hg3 hat3)
       go_roundw
       case rel=>exact ⟨k+1,by omega,by go_num,by rw[hs3.out],by rw[hs3.out,List.length_append,intsV_append];exact HO3,HC3⟩
       case measure=>(simp[intOf]<;>omega)
    ·obtain rfl:k=o.length:=by omega
     obtain ⟨b0,o0,rfl,_,hc0⟩:=int_at (hR.out.later (Ct hC.out hC2.out) (fun _ h=>h.elim)) hx.out;have hle:=insUp_le x o o.length (Nat.le_refl _);have hi0:insO x o=if (insUp x o o.length).2=true then (insUp x o o.length).1 else (insUp x o o.length).1++[x]:=rfl;obtain ⟨p,hp⟩:∃ p,p=insUp x o o.length:=⟨_,rfl⟩;rw[<-hp] at hN hle hi0 |-;clear hp;obtain ⟨a,b⟩:=p;simp only at hN hle hi0 |-;have hal:a.length<=100001:=by split at hle<;>omega
     clear hle;cases b with
     | true=>
      have hi1:=zI (show insO x o=a by rw[hi0];simp);obtain ⟨A5,c5,rfl,h51,h52⟩:=own_slice hN.out;have hR5:=zI (own_rd hN.out);have hC5:=zI (Ct hC.out hC2.out);clear hi0 h51 h52;go_wp2_with fail
      go_roundw
      case rel=>exact ⟨j+1,A5,c5,by omega,by go_num,by rw[hs.out,hi1.out],by rw[hs.out,hi1.out];exact hR5,hC5⟩
      case measure=>(simp[intOf]<;>omega)
     | false=>
      have hi1:=zI (show insO x o=a++[x] by rw[hi0];simp);clear hi0;go_wp2_with (at_builtin;refine wpList_append_own _ rfl (.tmp 58) (.tmp 63) 23 rfl _ 2 i _ 1 8 Tryz.underlying23 hi hz0 hz1 hz2 rfl (by omega) u5 a.length (intsV a) rfl (by exact hN.out.alloc _) ⟨wr.heap.size,0,none⟩ 1 1 [.int .i64 x] rfl rfl (by exact all_new (Blk.new wr 2 #[.int .i64 x])) (by intro u hu;simp at hu;subst hu;rfl) (by unfold maxLen;omega) (by omega) (by have:=hC2.out.size;simp;omega) ?_;intro v' w5 hown3 hg3 hat3;have HC3:=zI (Ct hC.out (app1 hN.out hC2.out _ hg3));have HR5:=hown3;clear hown3 hg3 hat3;obtain ⟨A5,c5,rfl,h51,h52⟩:=own_slice HR5;have hR5:=zI (own_rd HR5);clear HR5 h51 h52)
      go_roundw
      case rel=>exact ⟨j+1,A5,c5,by omega,by go_num,by rw[hs.out,hi1.out,List.length_append];rfl,by rw[hs.out,hi1.out,intsV_append];exact hR5,HC3⟩
      case measure=>(simp[intOf]<;>omega)
  ·obtain rfl:j=l.length:=by omega
   have hsl:=zI (srtUp_le l l.length hj);go_wp2
   go_ret;exact ⟨Ao,co,rfl,by have:=hsl.out;unfold maxLen;omega,hO.out,hC.out⟩
def canB (m:MC) (s:SC) (e:Int):Bool:=decide (0 < (whoL m s e m.nU).length)
def anUp (m:MC) (s:SC) (j:Nat):Bool:=(List.range j).any fun (e:Nat)=>canB m s e
def anB (m:MC) (s:SC):Bool:=anUp m s m.ev.length
theorem anUp_succ (m:MC) (s:SC) (j:Nat):anUp m s (j+1)=(anUp m s j || canB m s j):=by unfold anUp;rw[List.range_succ,any_snoc]
theorem anUp_true {m:MC} {s:SC} {j:Nat} (hj:j < m.ev.length) (h:canB m s j=true):anB m s=true:=by
 unfold anB anUp;rw[List.any_eq_true];exact ⟨j,List.mem_range.2 hj,h⟩
theorem refAny_any (w:World) (m:MC) (s:SC) (hG:Good w m s) (hnU:m.nU<=1000):Calls Tryz.prog 60 #[.agg (mA m),.agg (sA s)] w fun r w'=>r=.returned (.bool (anB m s))/\Chg (fun _=>False) w w':=by
 have hlen:=hG.lens.2.2.2.2.2.1;unfold maxLen at hlen;have hb:=Boxes.new w m s;have hC0:=((Chg.refl (fun _=>False) w).alloc (.cells (mA m) 32)).alloc (.cells (sA s) 134);have HW:=zI (fun (w':World) (h:Chg (fun _=>False) w w') (e:Int)=>refWho_any w' m s e (hG.later h) hnU);unfold mA sA at HW;unfold mA sA;go_enter Tryz.func60,Tryz.ntmps60;go_wp2_with fail
 obtain ⟨w1,hw1⟩:∃ w1,w1=(w.alloc (.cells (mA m) 32)).alloc (.cells (sA s) 134):=⟨_,rfl⟩;rw[<-hw1] at hb hC0;unfold mA sA at hw1;rw[<-hw1];clear hw1;obtain ⟨k,hk⟩:∃ k,k=w.heap.size+1:=⟨_,rfl⟩;obtain ⟨g,hg⟩:∃ g,g=w.heap.size:=⟨_,rfl⟩;rw[<-hk,<-hg] at hb |-;clear hk hg hG;have HB:=zI hb;have HC0:=zI hC0;clear hb hC0;go_loopw [5] (fun x wr=>∃ j:Nat,j<=m.ev.length/\x=.int .i64 j/\Hid (anUp m s j=false)/\Hid (Chg (fun _=>False) w1 wr)) (fun x _=>m.ev.length - (intOf x).toNat)
 case atStart=>exact ⟨0,Nat.zero_le _,rfl,zI rfl,Chg.refl _ _⟩
 case round=>
  obtain ⟨j,hj,rfl,hU,hC⟩:=hrel;have hBr:=HB.out.later hC.out;obtain ⟨e0,e1,e2,e3,e4,e5,e6,e7,e8,e9⟩:=mcells hBr.m;obtain ⟨f0,f1,f2,f3,f4⟩:=scells hBr.s;replace hBr:=zI hBr;by_cases hlt:j < m.ev.length
  ·have HWJ:=zI (HW.out wr (Ct HC0.out hC.out) j);have hs:=anUp_succ m s j;rw[hU.out,Bool.false_or] at hs;have hyes:=zI (fun h=>anUp_true (s:=s) hlt h);unfold canB at hs hyes;obtain ⟨l,hl⟩:∃ l,l=whoL m s j m.nU:=⟨_,rfl⟩;rw[<-hl] at hs hyes HWJ;clear hl;by_cases hl0:0 < l.length
   ·have hd:decide ((0:Int) < (l.length:Int))=true:=by rw[dT];omega
    have hA:=zI (hyes.out (by rw[dT];exact hl0));clear hyes hs;go_wp2_with (go_at_call 56;refine HWJ.out.mono ?_;rintro r w' ⟨A,c,rfl,hlm,-,h⟩;have HC:=zI (Ct hC.out h);clear h;unfold maxLen at hlm)
    go_ret;exact ⟨by rw[hA.out];rfl,Ct HC0.out HC.out⟩
   ·have hd:decide ((0:Int) < (l.length:Int))=false:=by rw[dF];omega
    have hA:Hid (anUp m s (j+1)=false):=zI (hs.trans (by rw[dF];exact hl0));clear hyes hs;go_wp2_with (go_at_call 56;refine HWJ.out.mono ?_;rintro r w' ⟨A,c,rfl,hlm,-,h⟩;have HC:=zI (Ct hC.out h);clear h;unfold maxLen at hlm)
    go_roundw
    case rel=>exact ⟨j+1,by omega,by go_num,hA,HC⟩
    case measure=>(simp[intOf]<;>omega)
  ·obtain rfl:j=m.ev.length:=by omega
   have hno:Hid (anB m s=false):=hU;clear hU;go_wp2
   go_ret;exact ⟨by rw[hno.out];rfl,Ct HC0.out hC.out⟩
def opUp (_m:MC) (s:SC) (j:Nat):Bool:=(List.range j).any fun (i:Nat)=>hasB s.op i
def frRow (m:MC) (s:SC) (e:Int) (n:Nat):Bool:=(List.range n).any fun (u:Nat)=>freeB m s e u
def frUp (m:MC) (s:SC) (j:Nat):Bool:=(List.range j).any fun (e:Nat)=>frRow m s e m.nU
def stuckB (m:MC) (s:SC):Bool:=opUp m s m.nS && frUp m s m.ev.length && !com m s && !anB m s
theorem opUp_succ (m:MC) (s:SC) (j:Nat):opUp m s (j+1)=(opUp m s j || hasB s.op j):=by unfold opUp;rw[List.range_succ,any_snoc]
theorem frRow_succ (m:MC) (s:SC) (e:Int) (j:Nat):frRow m s e (j+1)=(frRow m s e j || freeB m s e j):=by unfold frRow;rw[List.range_succ,any_snoc]
theorem frUp_succ (m:MC) (s:SC) (j:Nat):frUp m s (j+1)=(frUp m s j || frRow m s j m.nU):=by unfold frUp;rw[List.range_succ,any_snoc]
theorem refStuck_any (w:World) (m:MC) (s:SC) (hG:Good w m s) (hnU:m.nU<=1000):Calls Tryz.prog 102 #[.agg (mA m),.agg (sA s)] w fun r w'=>r=.returned (.bool (stuckB m s))/\Chg (fun _=>False) w w':=by
 have hlens:=hG.lens;unfold maxLen at hlens;obtain ⟨-,-,-,-,hnS,hnE,-⟩:=hlens;have hb:=Boxes.new w m s;have hC0:=((Chg.refl (fun _=>False) w).alloc (.cells (mA m) 32)).alloc (.cells (sA s) 134);have HF:=zI (fun (w':World) (h:Chg (fun _=>False) w w') (e u:Int)=>refFree_any w' m s e u (hG.later h));have HCM:=zI (fun (w':World) (h:Chg (fun _=>False) w w')=>refCom_any w' m s (hG.later h));have HAN:=zI (fun (w':World) (h:Chg (fun _=>False) w w')=>refAny_any w' m s (hG.later h) hnU);have hopR:=zI hG.opR;obtain ⟨cm,hcm⟩:∃ cm,cm=com m s:=⟨_,rfl⟩;obtain ⟨an,han⟩:∃ an,an=anB m s:=⟨_,rfl⟩;have hU:stuckB m s=(opUp m s m.nS && frUp m s m.ev.length && !cm && !an):=by unfold stuckB;rw[hcm,han]
 replace hU:=zI hU;rw[<-hcm] at HCM;rw[<-han] at HAN;clear hcm han;unfold mA sA at HF HCM HAN;unfold mA sA;go_enter Tryz.func102,Tryz.ntmps102;go_wp2_with fail
 obtain ⟨w1,hw1⟩:∃ w1,w1=(w.alloc (.cells (mA m) 32)).alloc (.cells (sA s) 134):=⟨_,rfl⟩;rw[<-hw1] at hb hC0;unfold mA sA at hw1;rw[<-hw1];clear hw1;obtain ⟨k,hk⟩:∃ k,k=w.heap.size+1:=⟨_,rfl⟩;obtain ⟨g,hg⟩:∃ g,g=w.heap.size:=⟨_,rfl⟩;rw[<-hk,<-hg] at hb |-;clear hk hg hG;have HB:=zI hb;have HC0:=zI hC0;clear hb hC0;go_loopw [7,5] (fun x v wr=>∃ j:Nat,j<=m.nS/\x=.int .i64 j/\v=.bool (opUp m s j)/\w1=wr) (fun x _ _=>m.nS - (intOf x).toNat)
 case atStart=>exact ⟨0,Nat.zero_le _,rfl,rfl,rfl⟩
 case round=>
  obtain ⟨j,hj,rfl,rfl,rfl⟩:=hrel;obtain ⟨e0,e1,e2,e3,e4,e5,e6,e7,e8,e9⟩:=mcells HB.out.m;obtain ⟨f0,f1,f2,f3,f4⟩:=scells HB.out.s;by_cases hlt:j < m.nS
  ·have hs:=opUp_succ m s j;obtain ⟨ob,hob⟩:∃ ob,ob=opUp m s j:=⟨_,rfl⟩;rw[<-hob] at hs |-;clear hob;replace hs:=zI hs;cases ob with
   | true=>
    go_wp2
    go_roundw
    case rel=>exact ⟨j+1,by omega,by go_num,by rw[hs.out];rfl,by first | rfl | trivial⟩
    case measure=>(simp[intOf]<;>omega)
   | false=>
    go_wp2_with (go_at_call 99;refine Calls.mono (refHas_any _ _ _ hopR.out) ?_;rintro e w' ⟨rfl,rfl⟩)
    go_roundw
    case rel=>exact ⟨j+1,by omega,by go_num,by rw[hs.out];rfl,by first | rfl | trivial⟩
    case measure=>(simp[intOf]<;>omega)
  ·obtain rfl:j=m.nS:=by omega
   clear hlt hj;obtain ⟨ob,hob⟩:∃ ob,ob=opUp m s m.nS:=⟨_,rfl⟩;rw[<-hob] at hU |-;clear hob;go_wp2_with fail
   clear e0 e1 e2 e3 e4 e5 e6 e7 e8 e9 f0 f1 f2 f3 f4;go_loopw [8,6] (fun x v wr=>∃ j:Nat,j<=m.ev.length/\x=.int .i64 j/\v=.bool (frUp m s j)/\Hid (Chg (fun _=>False) w1 wr)) (fun x _ _=>m.ev.length - (intOf x).toNat)
   case atStart=>exact ⟨0,Nat.zero_le _,rfl,rfl,Chg.refl _ _⟩
   case round=>
    obtain ⟨j,hj,rfl,rfl,hC⟩:=hrel;have hBr:=HB.out.later hC.out;obtain ⟨e0,e1,e2,e3,e4,e5,e6,e7,e8,e9⟩:=mcells hBr.m;obtain ⟨f0,f1,f2,f3,f4⟩:=scells hBr.s;clear hBr;by_cases hlt:j < m.ev.length
    ·have hs:=zI (frUp_succ m s j);obtain ⟨fb,hfb⟩:∃ fb,fb=frUp m s j:=⟨_,rfl⟩;rw[<-hfb] at hs |-;clear hfb;go_wp2_with fail
     clear e0 e1 e2 e3 e4 e5 e6 e7 e8 e9 f0 f1 f2 f3 f4;go_loopw [9,6] (fun x v wt=>∃ i:Nat,i<=m.nU/\x=.int .i64 i/\v=.bool (fb || frRow m s j i)/\Hid (Chg (fun _=>False) w1 wt)) (fun x _ _=>m.nU - (intOf x).toNat)
     case atStart=>exact ⟨0,Nat.zero_le _,rfl,by simp[frRow],hC⟩
     case round=>
      obtain ⟨i,hi,rfl,rfl,hC2⟩:=hrel;have hBr:=HB.out.later hC2.out;obtain ⟨e0,e1,e2,e3,e4,e5,e6,e7,e8,e9⟩:=mcells hBr.m;obtain ⟨f0,f1,f2,f3,f4⟩:=scells hBr.s;clear hBr;by_cases hlt2:i < m.nU
      ·have hs2:=zI (frRow_succ m s j i);have HFI:=zI (HF.out _ (Ct HC0.out hC2.out) j i);obtain ⟨vb,hvb⟩:∃ vb,vb=(fb || frRow m s j i):=⟨_,rfl⟩;rw[<-hvb];replace hvb:=zI hvb;cases vb with
       | true=>
        go_wp2
        go_roundw
        case rel=>exact ⟨i+1,by omega,by go_num,by rw[hs2.out,<-Bool.or_assoc,<-hvb.out];rfl,hC2⟩
        case measure=>(simp[intOf]<;>omega)
       | false=>
        go_wp2_with (go_at_call 116;refine HFI.out.mono ?_;rintro r w' ⟨rfl,h⟩;have HC4:=zI (Ct hC2.out h);clear h)
        go_roundw
        case rel=>exact ⟨i+1,by omega,by go_num,by rw[hs2.out,<-Bool.or_assoc,<-hvb.out];rfl,HC4⟩
        case measure=>(simp[intOf]<;>omega)
      ·obtain rfl:i=m.nU:=by omega
       go_wp2
       go_roundw
       case rel=>exact ⟨j+1,by omega,by go_num,by rw[hs.out],hC2⟩
       case measure=>(simp[intOf]<;>omega)
    ·obtain rfl:j=m.ev.length:=by omega
     clear hlt hj;obtain ⟨fb,hfb⟩:∃ fb,fb=frUp m s m.ev.length:=⟨_,rfl⟩;rw[<-hfb] at hU |-;clear hfb;have HK:=fun (x y:World) (p:Addr) (u:Value) (h:Chg (fun _=>False) x y) (hu:x.cell? p=some u)=>keep_cell h (fun _ h=>h) hu
     replace HK:=zI HK;have HC:=hC;cases ob<;>cases fb<;>cases cm<;>cases an;all_goals
      go_wp2_with (first | (go_at_call 101;refine (HCM.out _ (Ct HC0.out HC.out)).mono ?_;rintro r w' ⟨rfl,h⟩;have e0:=HK.out _ _ _ _ h e0;have e1:=HK.out _ _ _ _ h e1;have e2:=HK.out _ _ _ _ h e2;have e3:=HK.out _ _ _ _ h e3;have e4:=HK.out _ _ _ _ h e4;have e5:=HK.out _ _ _ _ h e5;have e6:=HK.out _ _ _ _ h e6;have e7:=HK.out _ _ _ _ h e7;have e8:=HK.out _ _ _ _ h e8;have e9:=HK.out _ _ _ _ h e9;have f0:=HK.out _ _ _ _ h f0;have f1:=HK.out _ _ _ _ h f1;have f2:=HK.out _ _ _ _ h f2;have f3:=HK.out _ _ _ _ h f3;have f4:=HK.out _ _ _ _ h f4;have HC:=zI (Ct HC.out h);clear h) | (go_at_call 60;refine (HAN.out _ (Ct HC0.out HC.out)).mono ?_;rintro r w' ⟨rfl,h⟩;have HC:=zI (Ct HC.out h);clear h))
      go_ret;exact ⟨by rw[hU.out];rfl,Ct HC0.out HC.out⟩
end
namespace Tr
def arity (op:Int):Int:=if 1<=op/\op<=14 then 0 else if op=15\/(19<=op/\op<=24) then 1 else if (16<=op/\op<=18)\/op=25\/op=26 then 2 else -1
inductive T where
 | leaf (at_:Nat)
 | one (at_:Nat) (x:T)
 | two (at_:Nat) (x y:T)
namespace T
def endOf:T->Nat
 | leaf a=>a
 | one a _=>a
 | two a _ _=>a
def first:T->Nat
 | leaf a=>a
 | one _ x=>x.first
 | two _ x _=>x.first
end T
def push (row:List T) (op:Int) (at_:Nat):Option (List T):=
 if arity op=0 then some (.leaf at_::row)
 else if arity op=1 then (match row with | x::r=>some (.one at_ x::r) | _=>none)
 else if arity op=2 then (match row with | y::x::r=>some (.two at_ x y::r) | _=>none)
 else none
end Tr
section
open Go.RowKit
theorem arity_any (w:World) (op:Int):Calls Tryz.prog 103 #[.int .i64 op] w fun e w'=>e=.returned (.int .i64 (Tr.arity op))/\w=w':=by
 rcases (by omega:(1<=op/\op<=14)\/(19<=op/\op<=24)\/op < 1\/26 < op\/op=15\/op=16\/op=17\/op=18\/op=25\/op=26) with ⟨h1,h2⟩ | ⟨h1,h2⟩ | h1 | h1 | rfl | rfl | rfl | rfl | rfl | rfl
 ·skip;have ha:Hid (Tr.arity op=0):=by show Tr.arity op=0;unfold Tr.arity;(repeat' split)<;>omega
  have d1:decide (1<=op)=true:=by rw[dT];omega
  have d2:decide (op<=14)=true:=by rw[dT];omega
  go_enter Tryz.func103,Tryz.ntmps103;go_wp2
  go_ret;exact ⟨by rw[ha.out];rfl,rfl⟩
 ·skip;have ha:Hid (Tr.arity op=1):=by show Tr.arity op=1;unfold Tr.arity;(repeat' split)<;>omega
  have d1:decide (1<=op)=true:=by rw[dT];omega
  have d2:decide (op<=14)=false:=by rw[dF];omega
  have d3:decide (19<=op)=true:=by rw[dT];omega
  have d4:decide (op<=24)=true:=by rw[dT];omega
  have k15:(op ==15)=false:=by rw[bF];omega
  have k16:(op ==16)=false:=by rw[bF];omega
  have k17:(op ==17)=false:=by rw[bF];omega
  have k18:(op ==18)=false:=by rw[bF];omega
  have k25:(op ==25)=false:=by rw[bF];omega
  have k26:(op ==26)=false:=by rw[bF];omega
  go_enter Tryz.func103,Tryz.ntmps103;go_wp2
  go_ret;exact ⟨by rw[ha.out];rfl,rfl⟩
 ·skip;have ha:Hid (Tr.arity op=-1):=by show Tr.arity op=-1;unfold Tr.arity;(repeat' split)<;>omega
  have d1:decide (1<=op)=false:=by rw[dF];omega
  have d3:decide (19<=op)=false:=by rw[dF];omega
  have d5:decide (16<=op)=false:=by rw[dF];omega
  have k15:(op ==15)=false:=by rw[bF];omega
  have k16:(op ==16)=false:=by rw[bF];omega
  have k17:(op ==17)=false:=by rw[bF];omega
  have k18:(op ==18)=false:=by rw[bF];omega
  have k25:(op ==25)=false:=by rw[bF];omega
  have k26:(op ==26)=false:=by rw[bF];omega
  go_enter Tryz.func103,Tryz.ntmps103;go_wp2
  go_ret;exact ⟨by rw[ha.out];rfl,rfl⟩
 ·skip;have ha:Hid (Tr.arity op=-1):=by show Tr.arity op=-1;unfold Tr.arity;(repeat' split)<;>omega
  have d1:decide (1<=op)=true:=by rw[dT];omega
  have d2:decide (op<=14)=false:=by rw[dF];omega
  have d3:decide (19<=op)=true:=by rw[dT];omega
  have d4:decide (op<=24)=false:=by rw[dF];omega
  have d5:decide (16<=op)=true:=by rw[dT];omega
  have d6:decide (op<=18)=false:=by rw[dF];omega
  have k15:(op ==15)=false:=by rw[bF];omega
  have k16:(op ==16)=false:=by rw[bF];omega
  have k17:(op ==17)=false:=by rw[bF];omega
  have k18:(op ==18)=false:=by rw[bF];omega
  have k25:(op ==25)=false:=by rw[bF];omega
  have k26:(op ==26)=false:=by rw[bF];omega
  go_enter Tryz.func103,Tryz.ntmps103;go_wp2
  go_ret;exact ⟨by rw[ha.out];rfl,rfl⟩
 all_goals
  go_enter Tryz.func103,Tryz.ntmps103;go_wp2
  go_ret;exact ⟨rfl,rfl⟩
theorem refArity_any (w:World) (op:Int):Calls Tryz.prog 95 #[.int .i64 op] w fun e w'=>e=.returned (.int .i64 (Tr.arity op))/\w=w':=by
 rcases (by omega:(1<=op/\op<=14)\/(19<=op/\op<=24)\/op < 1\/26 < op\/op=15\/op=16\/op=17\/op=18\/op=25\/op=26) with ⟨h1,h2⟩ | ⟨h1,h2⟩ | h1 | h1 | rfl | rfl | rfl | rfl | rfl | rfl
 ·skip;have ha:Hid (Tr.arity op=0):=by show Tr.arity op=0;unfold Tr.arity;(repeat' split)<;>omega
  have d1:decide (1<=op)=true:=by rw[dT];omega
  have d2:decide (op<=14)=true:=by rw[dT];omega
  go_enter Tryz.func95,Tryz.ntmps95;go_wp2
  go_ret;exact ⟨by rw[ha.out];rfl,rfl⟩
 ·skip;have ha:Hid (Tr.arity op=1):=by show Tr.arity op=1;unfold Tr.arity;(repeat' split)<;>omega
  have d1:decide (1<=op)=true:=by rw[dT];omega
  have d2:decide (op<=14)=false:=by rw[dF];omega
  have d3:decide (19<=op)=true:=by rw[dT];omega
  have d4:decide (op<=24)=true:=by rw[dT];omega
  have k15:(op ==15)=false:=by rw[bF];omega
  have k16:(op ==16)=false:=by rw[bF];omega
  have k17:(op ==17)=false:=by rw[bF];omega
  have k18:(op ==18)=false:=by rw[bF];omega
  have k25:(op ==25)=false:=by rw[bF];omega
  have k26:(op ==26)=false:=by rw[bF];omega
  go_enter Tryz.func95,Tryz.ntmps95;go_wp2
  go_ret;exact ⟨by rw[ha.out];rfl,rfl⟩
 ·skip;have ha:Hid (Tr.arity op=-1):=by show Tr.arity op=-1;unfold Tr.arity;(repeat' split)<;>omega
  have d1:decide (1<=op)=false:=by rw[dF];omega
  have d3:decide (19<=op)=false:=by rw[dF];omega
  have d5:decide (16<=op)=false:=by rw[dF];omega
  have k15:(op ==15)=false:=by rw[bF];omega
  have k16:(op ==16)=false:=by rw[bF];omega
  have k17:(op ==17)=false:=by rw[bF];omega
  have k18:(op ==18)=false:=by rw[bF];omega
  have k25:(op ==25)=false:=by rw[bF];omega
  have k26:(op ==26)=false:=by rw[bF];omega
  go_enter Tryz.func95,Tryz.ntmps95;go_wp2
  go_ret;exact ⟨by rw[ha.out];rfl,rfl⟩
 ·skip;have ha:Hid (Tr.arity op=-1):=by show Tr.arity op=-1;unfold Tr.arity;(repeat' split)<;>omega
  have d1:decide (1<=op)=true:=by rw[dT];omega
  have d2:decide (op<=14)=false:=by rw[dF];omega
  have d3:decide (19<=op)=true:=by rw[dT];omega
  have d4:decide (op<=24)=false:=by rw[dF];omega
  have d5:decide (16<=op)=true:=by rw[dT];omega
  have d6:decide (op<=18)=false:=by rw[dF];omega
  have k15:(op ==15)=false:=by rw[bF];omega
  have k16:(op ==16)=false:=by rw[bF];omega
  have k17:(op ==17)=false:=by rw[bF];omega
  have k18:(op ==18)=false:=by rw[bF];omega
  have k25:(op ==25)=false:=by rw[bF];omega
  have k26:(op ==26)=false:=by rw[bF];omega
  go_enter Tryz.func95,Tryz.ntmps95;go_wp2
  go_ret;exact ⟨by rw[ha.out];rfl,rfl⟩
 all_goals
  go_enter Tryz.func95,Tryz.ntmps95;go_wp2
  go_ret;exact ⟨rfl,rfl⟩
end
end Go.Proofs.YthohgagkjnbkbaaGreat
