/- FragTrue, part 17: FrSame FrSame2. Each theorem says what a function does, or a plain fact, under its own premises alone. -/
import Derived.Test.YthohgagkjnbkbaaGreatP16
set_option maxRecDepth 100000
set_option maxHeartbeats 16000000
namespace Go.Proofs.YthohgagkjnbkbaaGreat
section
open Go.RowKit
theorem tk_eq {α:Type} {a b:List α} {j:Nat} {x y:α} (h:a.take j=b.take j) (hx:a[j]?=some x) (hy:b[j]?=some y) (e:x=y):a.take (j+1)=b.take (j+1):=by
 rw[List.take_add_one,List.take_add_one,h,hx,hy,e]
theorem tk_ne {α:Type} {a b:List α} {j:Nat} {x y:α} (hx:a[j]?=some x) (hy:b[j]?=some y) (e:x ≠ y):a ≠ b:=by
 rintro rfl;rw[hx] at hy;injection hy with hy;exact e hy
theorem tk_all {α:Type} {a b:List α} {n:Nat} (ha:a.length=n) (hb:b.length=n) (h:a.take n=b.take n):a=b:=by
 rwa [List.take_of_length_le (by omega),List.take_of_length_le (by omega)] at h
theorem same10_any (w:World) (A B:Option Addr) (c d:Nat) (a b:List Int) (hA:Rd w w.heap.size A (intsV a)) (hB:Rd w w.heap.size B (intsV b)) (hl:a.length<=100000):Calls Tryz.prog 94 #[.slice A a.length c,.slice B b.length d] w fun e w'=>e=.returned (.bool (decide (a=b)))/\∃ k,w'=w.drewN k:=by
 by_cases hlen:a.length=b.length
 ·obtain ⟨n,hn⟩:∃ n,n=a.length:=⟨_,rfl⟩;have hbn:b.length=n:=by rw[hn,hlen]
  rw[hbn,<-hn];rw[<-hn] at hl;replace hA:=zI hA;replace hB:=zI hB;replace hn:=zI hn;replace hbn:=zI hbn;clear hlen;have q0:((n:Int) !=n)=false:=by simp
  go_enter Tryz.func94,Tryz.ntmps94;go_wp2_with fail
  go_loopw [5] (fun x wr=>∃ j:Nat,j<=n/\x=.int .i64 j/\Hid (a.take j=b.take j)/\∃ k,wr=w.drewN k) (fun x _=>n - (intOf x).toNat)
  case atStart=>exact ⟨0,Nat.zero_le _,rfl,zI rfl,0,rfl⟩
  case round=>
   obtain ⟨j,hj,rfl,hU,k,rfl⟩:=hrel;by_cases hlt:j < n
   ·obtain ⟨x,hx⟩:∃ x,a[j]?=some x:=⟨_,gG (by rw[<-hn.out];exact hlt)⟩;obtain ⟨y,hy⟩:∃ y,b[j]?=some y:=⟨_,gG (by rw[hbn.out];exact hlt)⟩;obtain ⟨b1,o1,hA1,_,c1⟩:=int_at hA.out hx;obtain ⟨b2,o2,hA2,_,c2⟩:=int_at hB.out hy;subst hA1;subst hA2;by_cases hxy:x=y
    ·have hs:=zI (tk_eq hU.out hx hy hxy);have q1:(x ==y)=true:=by rw[beq_iff_eq];exact hxy
     have q2:(x !=y)=false:=by rw[bne_eq_false_iff_eq];exact hxy
     clear hxy;clear hx hy hU;go_wp2_with fail
     go_quiet (fail)
     go_wp2_with fail
     go_roundw
     case rel=>exact ⟨j+1,by omega,by go_num,hs,k+nq,by first | rfl | rw[World.drewN_drewN]⟩
     case measure=>(simp[intOf]<;>omega)
    ·have hs:Hid (decide (a=b)=false):=by show _=_;rw[dF];exact tk_ne hx hy hxy
     have q1:(x ==y)=false:=by rw[bF];exact hxy
     have q2:(x !=y)=true:=by rw[bne_iff_ne];exact hxy
     clear hxy;clear hx hy hU;go_wp2_with fail
     go_quiet (fail)
     go_wp2
     go_ret;exact ⟨by rw[hs.out];rfl,k+nq,by first | rfl | rw[World.drewN_drewN]⟩
   ·obtain rfl:n=j:=by omega
    have hs:Hid (decide (a=b)=true):=by show _=_;rw[dT];exact tk_all hn.out.symm hbn.out hU.out
    clear hU;go_wp2
    go_ret;exact ⟨by rw[hs.out];rfl,k,rfl⟩
 ·have hs:Hid (decide (a=b)=false):=by show _=_;rw[dF];rintro rfl;exact hlen rfl
  obtain ⟨n,hn⟩:∃ n,n=a.length:=⟨_,rfl⟩;obtain ⟨p,hp⟩:∃ p,p=b.length:=⟨_,rfl⟩;rw[<-hn,<-hp] at hlen |-;have q0:((n:Int) ==p)=false:=by rw[bF];omega
  have q1:((n:Int) !=p)=true:=by rw[bne_iff_ne];omega
  clear hA hB hn hp hlen;go_enter Tryz.func94,Tryz.ntmps94;go_wp2
  go_ret;exact ⟨by rw[hs.out];rfl,0,rfl⟩
theorem same12_any (w:World) (A B:Option Addr) (c d:Nat) (a b:List (Bool × Int)) (hA:Rd w w.heap.size A (a.flatMap orC)) (hB:Rd w w.heap.size B (b.flatMap orC)) (hl:a.length<=100000) (hia:∀ x ∈ a,inR x.2) (hib:∀ x ∈ b,inR x.2):Calls Tryz.prog 24 #[.slice A a.length c,.slice B b.length d] w fun e w'=>e=.returned (.bool (decide (a=b)))/\∃ k,w'=w.drewN k:=by
 by_cases hlen:a.length=b.length
 ·obtain ⟨n,hn⟩:∃ n,n=a.length:=⟨_,rfl⟩;have hbn:b.length=n:=by rw[hn,hlen]
  rw[hbn,<-hn];rw[<-hn] at hl;replace hA:=zI hA;replace hia:=zI hia;replace hib:=zI hib;replace hB:=zI hB;replace hn:=zI hn;replace hbn:=zI hbn;clear hlen;have q0:((n:Int) !=n)=false:=by simp
  go_enter Tryz.func24,Tryz.ntmps24;go_wp2_with fail
  go_loopw [5] (fun x wr=>∃ j:Nat,j<=n/\x=.int .i64 j/\Hid (a.take j=b.take j)/\∃ k,wr=w.drewN k) (fun x _=>n - (intOf x).toNat)
  case atStart=>exact ⟨0,Nat.zero_le _,rfl,zI rfl,0,rfl⟩
  case round=>
   obtain ⟨j,hj,rfl,hU,k,rfl⟩:=hrel;by_cases hlt:j < n
   ·obtain ⟨x,hx⟩:∃ x,a[j]?=some x:=⟨_,gG (by rw[<-hn.out];exact hlt)⟩;obtain ⟨y,hy⟩:∃ y,b[j]?=some y:=⟨_,gG (by rw[hbn.out];exact hlt)⟩;obtain ⟨b1,o1,hA1,_,hc1⟩:=row_at orC_len (by omega) hA.out hx;obtain ⟨b2,o2,hA2,_,hc2⟩:=row_at orC_len (by omega) hB.out hy;have c10:=hc1 0 _ rfl;have c11:=hc1 1 _ rfl;have c20:=hc2 0 _ rfl;have c21:=hc2 1 _ rfl;rw[Nat.add_zero] at c10 c20;clear hc1 hc2;subst hA1;subst hA2;by_cases hxy:x=y
    ·have hs:=zI (tk_eq hU.out hx hy hxy);have hd:decide (x=y)=true:=by simpa using hxy
     have ex:=hia.out x (List.mem_of_getElem? hx);have ey:=hib.out y (List.mem_of_getElem? hy);clear hxy;clear hx hy hU;go_wp2_with fail
     refine wp_region_quiet_lit (by kernel_rfl) (by kernel_rfl) ?_;repeat (go_big_quiet_step (fail))
     refine quiet_neq130 (eq_sen ex ey) rfl rfl rfl rfl ?_;rw[hd];refine wpQuiet_nil ?_;intro _ hw';obtain ⟨nq,hw''⟩:=hw';subst hw'';clear hd;go_wp2_with fail
     go_roundw
     case rel=>exact ⟨j+1,by omega,by go_num,hs,k+nq,by first | rfl | rw[World.drewN_drewN]⟩
     case measure=>(simp[intOf]<;>omega)
    ·have hs:Hid (decide (a=b)=false):=by show _=_;rw[dF];exact tk_ne hx hy hxy
     have hd:decide (x=y)=false:=by simpa using hxy
     have ex:=hia.out x (List.mem_of_getElem? hx);have ey:=hib.out y (List.mem_of_getElem? hy);clear hxy;clear hx hy hU;go_wp2_with fail
     refine wp_region_quiet_lit (by kernel_rfl) (by kernel_rfl) ?_;repeat (go_big_quiet_step (fail))
     refine quiet_neq130 (eq_sen ex ey) rfl rfl rfl rfl ?_;rw[hd];refine wpQuiet_nil ?_;intro _ hw';obtain ⟨nq,hw''⟩:=hw';subst hw'';clear hd;go_wp2
     go_ret;exact ⟨by rw[hs.out];rfl,k+nq,by first | rfl | rw[World.drewN_drewN]⟩
   ·obtain rfl:n=j:=by omega
    have hs:Hid (decide (a=b)=true):=by show _=_;rw[dT];exact tk_all hn.out.symm hbn.out hU.out
    clear hU;go_wp2
    go_ret;exact ⟨by rw[hs.out];rfl,k,rfl⟩
 ·have hs:Hid (decide (a=b)=false):=by show _=_;rw[dF];rintro rfl;exact hlen rfl
  obtain ⟨n,hn⟩:∃ n,n=a.length:=⟨_,rfl⟩;obtain ⟨p,hp⟩:∃ p,p=b.length:=⟨_,rfl⟩;rw[<-hn,<-hp] at hlen |-;have q0:((n:Int) ==p)=false:=by rw[bF];omega
  have q1:((n:Int) !=p)=true:=by rw[bne_iff_ne];omega
  clear hA hB hn hp hlen;go_enter Tryz.func24,Tryz.ntmps24;go_wp2
  go_ret;exact ⟨by rw[hs.out];rfl,0,rfl⟩
def samZ (a b:ZC):Bool:=decide (a.cl=b.cl/\a.gl=b.gl)
theorem same22_any (w:World) (a b:ZC) (ha:ZOK w a) (hb:ZOK w b):Calls Tryz.prog 93 #[.agg (zA a),.agg (zA b)] w fun e w'=>e=.returned (.bool (samZ a b))/\Chg (fun _=>False) w w':=by
 obtain ⟨h1,h2⟩:=cells2 w 88 88 (zA a) (zA b);have C0:=zI (chg2 w (.cells (zA a) 88) (.cells (zA b) 88));have HA:=zI (ha.later C0.out);have HB:=zI (hb.later C0.out);obtain ⟨w1,hw1⟩:∃ w1,w1=(w.alloc (.cells (zA a) 88)).alloc (.cells (zA b) 88):=⟨_,rfl⟩;rw[<-hw1] at h1 h2 C0 HA HB;have la:=ha.few;have lb:=hb.few;obtain ⟨n,hn⟩:∃ n,n=a.cl.length:=⟨_,rfl⟩;obtain ⟨p,hp⟩:∃ p,p=a.gl.length:=⟨_,rfl⟩;obtain ⟨n2,hn2⟩:∃ n,n=b.cl.length:=⟨_,rfl⟩;obtain ⟨p2,hp2⟩:∃ p,p=b.gl.length:=⟨_,rfl⟩;have f0:w1.cell? ⟨w.heap.size,0,none⟩=some (.slice a.cA n a.cC):=by rw[h1.cell,hn];rfl
 have f1:w1.cell? ⟨w.heap.size,1,none⟩=some (.slice a.gA p a.gC):=by rw[h1.cell,hp];rfl
 have g0:w1.cell? ⟨w.heap.size+1,0,none⟩=some (.slice b.cA n2 b.cC):=by rw[h2.cell,hn2];rfl
 have g1:w1.cell? ⟨w.heap.size+1,1,none⟩=some (.slice b.gA p2 b.gC):=by rw[h2.cell,hp2];rfl
 clear h1 h2 ha hb;unfold zA at hw1 |-;rw[<-hn,<-hp,<-hn2,<-hp2] at hw1 |-;rw[<-hn,<-hp] at la;rw[<-hn2,<-hp2] at lb;by_cases hnn:n=n2
 ·by_cases hpp:p=p2
  ·subst hnn;subst hpp;replace hn:=zI hn;replace hp:=zI hp;replace hn2:=zI hn2;replace hp2:=zI hp2;rw[hw1] at f0 f1 g0 g1;have q0:((n:Int) !=n)=false:=by simp
   have q1:((p:Int) !=p)=false:=by simp
   go_enter Tryz.func93,Tryz.ntmps93;go_wp2_with fail
   rw[<-hw1] at f0 f1 g0 g1 |-;clear hw1 q0 q1;go_loopw [5] (fun x wr=>∃ j:Nat,j<=n/\x=.int .i64 j/\Hid (a.cl.take j=b.cl.take j)/\∃ k,wr=w1.drewN k) (fun x _=>n - (intOf x).toNat)
   case atStart=>exact ⟨0,Nat.zero_le _,rfl,zI rfl,0,rfl⟩
   case round=>
    obtain ⟨j,hj,rfl,hU,k,rfl⟩:=hrel;by_cases hlt:j < n
    ·obtain ⟨x,hx⟩:∃ x,a.cl[j]?=some x:=⟨_,gG (by rw[<-hn.out];exact hlt)⟩;obtain ⟨y,hy⟩:∃ y,b.cl[j]?=some y:=⟨_,gG (by rw[<-hn2.out];exact hlt)⟩;obtain ⟨b1,o1,hA1,_,hc1⟩:=row_at (f:=soC) (C:=2) (fun _=>rfl) (by omega) HA.out.cls hx;obtain ⟨b2,o2,hA2,_,hc2⟩:=row_at (f:=soC) (C:=2) (fun _=>rfl) (by omega) HB.out.cls hy;have c10:=hc1 0 _ rfl;have c11:=hc1 1 _ rfl;have c20:=hc2 0 _ rfl;have c21:=hc2 1 _ rfl;rw[Nat.add_zero] at c10 c20;have f0':=f0.trans (show _=some (Value.slice (some ⟨b1,o1,none⟩) n a.cC) by rw[hA1]);have g0':=g0.trans (show _=some (Value.slice (some ⟨b2,o2,none⟩) n b.cC) by rw[hA2]);have ex:=HA.out.cin x (List.mem_of_getElem? hx);have ey:=HB.out.cin y (List.mem_of_getElem? hy);replace f0:=zI f0;replace g0:=zI g0;clear hc1 hc2 hA1 hA2;by_cases hxy:x=y
     ·have hs:=zI (tk_eq hU.out hx hy hxy);have hd:decide (x=y)=true:=by simpa using hxy
      clear hxy hx hy hU;go_wp2_with fail
      refine wp_region_quiet_lit (by kernel_rfl) (by kernel_rfl) ?_;repeat (go_big_quiet_step (fail))
      refine quiet_neq194 (eq_cls ex ey) rfl rfl rfl rfl ?_;rw[hd];refine wpQuiet_nil ?_;intro _ hw';obtain ⟨nq,hw''⟩:=hw';subst hw'';clear hd;go_wp2_with fail
      go_roundw
      case rel=>exact ⟨j+1,by omega,by go_num,hs,k+nq,by first | rfl | rw[World.drewN_drewN]⟩
      case measure=>(simp[intOf]<;>omega)
     ·have hs:Hid (samZ a b=false):=by show _=_;unfold samZ;rw[dF];exact fun h=>tk_ne hx hy hxy h.1
      have hd:decide (x=y)=false:=by simpa using hxy
      clear hxy hx hy hU;go_wp2_with fail
      refine wp_region_quiet_lit (by kernel_rfl) (by kernel_rfl) ?_;repeat (go_big_quiet_step (fail))
      refine quiet_neq194 (eq_cls ex ey) rfl rfl rfl rfl ?_;rw[hd];refine wpQuiet_nil ?_;intro _ hw';obtain ⟨nq,hw''⟩:=hw';subst hw'';clear hd;have C9:=zI (C0.out.drewN (k+nq));go_wp2
      go_ret;exact ⟨by rw[hs.out];rfl,by first | exact C9.out | (rw[World.drewN_drewN];exact C9.out)⟩
    ·obtain rfl:n=j:=by omega
     have hcl:Hid (a.cl=b.cl):=tk_all hn.out.symm hn2.out.symm hU.out;clear hU;go_wp2_with fail
     go_loopw [6] (fun x wr=>∃ j:Nat,j<=p/\x=.int .i64 j/\Hid (a.gl.take j=b.gl.take j)/\∃ k,wr=w1.drewN k) (fun x _=>p - (intOf x).toNat)
     case atStart=>exact ⟨0,Nat.zero_le _,rfl,zI rfl,k,rfl⟩
     case round=>
      obtain ⟨j,hj,rfl,hU,k,rfl⟩:=hrel;by_cases hlt:j < p
      ·obtain ⟨x,hx⟩:∃ x,a.gl[j]?=some x:=⟨_,gG (by rw[<-hp.out];exact hlt)⟩;obtain ⟨y,hy⟩:∃ y,b.gl[j]?=some y:=⟨_,gG (by rw[<-hp2.out];exact hlt)⟩;obtain ⟨b1,o1,hA1,_,c1⟩:=int_at HA.out.gap hx;obtain ⟨b2,o2,hA2,_,c2⟩:=int_at HB.out.gap hy;have f1':=f1.trans (show _=some (Value.slice (some ⟨b1,o1,none⟩) p a.gC) by rw[hA1]);have g1':=g1.trans (show _=some (Value.slice (some ⟨b2,o2,none⟩) p b.gC) by rw[hA2]);replace f1:=zI f1;replace g1:=zI g1;clear hA1 hA2;by_cases hxy:x=y
       ·have hs:=zI (tk_eq hU.out hx hy hxy);have q1:(x ==y)=true:=by rw[beq_iff_eq];exact hxy
        have q2:(x !=y)=false:=by rw[bne_eq_false_iff_eq];exact hxy
        clear hxy hx hy hU;go_wp2_with fail
        go_quiet (fail)
        go_wp2_with fail
        go_roundw
        case rel=>exact ⟨j+1,by omega,by go_num,hs,k+nq,by first | rfl | rw[World.drewN_drewN]⟩
        case measure=>(simp[intOf]<;>omega)
       ·have hs:Hid (samZ a b=false):=by show _=_;unfold samZ;rw[dF];exact fun h=>tk_ne hx hy hxy h.2
        have q1:(x ==y)=false:=by rw[bF];exact hxy
        have q2:(x !=y)=true:=by rw[bne_iff_ne];exact hxy
        clear hxy hx hy hU;go_wp2_with fail
        go_quiet (fail)
        have C9:=zI (C0.out.drewN (k+nq));go_wp2
        go_ret;exact ⟨by rw[hs.out];rfl,by first | exact C9.out | (rw[World.drewN_drewN];exact C9.out)⟩
      ·obtain rfl:p=j:=by omega
       have hs:Hid (samZ a b=true):=by show _=_;unfold samZ;rw[dT];exact ⟨hcl.out,tk_all hp.out.symm hp2.out.symm hU.out⟩
       have C9:=zI (C0.out.drewN k);clear hU;go_wp2
       go_ret;exact ⟨by rw[hs.out];rfl,C9.out⟩
  ·have hs:Hid (samZ a b=false):=by show _=_;unfold samZ;rw[dF];intro h;rw[h.2,<-hp2] at hp;exact hpp hp
   subst hnn;rw[hw1] at f0 f1 g0 g1;have q0:((n:Int) !=n)=false:=by simp
   have q1:((p:Int) ==p2)=false:=by rw[bF];omega
   have q2:((p:Int) !=p2)=true:=by rw[bne_iff_ne];omega
   clear hn hp hn2 hp2 hpp;go_enter Tryz.func93,Tryz.ntmps93;go_wp2
   go_ret;rw[hw1] at C0;exact ⟨by rw[hs.out];rfl,C0.out⟩
 ·have hs:Hid (samZ a b=false):=by show _=_;unfold samZ;rw[dF];intro h;rw[h.1,<-hn2] at hn;exact hnn hn
  rw[hw1] at f0 f1 g0 g1;have q1:((n:Int) ==n2)=false:=by rw[bF];omega
  have q2:((n:Int) !=n2)=true:=by rw[bne_iff_ne];omega
  clear hn hp hn2 hp2 hnn;go_enter Tryz.func93,Tryz.ntmps93;go_wp2
  go_ret;rw[hw1] at C0;exact ⟨by rw[hs.out];rfl,C0.out⟩
def samN (a b:NC):Bool:=samZ a.z b.z && ((a.op ==b.op) && ((a.dn ==b.dn) && (decide (a.did=b.did) && decide (a.cnt=b.cnt))))
theorem same27_any (w:World) (a b:NC) (ha:NOK w a) (hb:NOK w b):Calls Tryz.prog 61 #[.agg (nA a),.agg (nA b)] w fun e w'=>e=.returned (.bool (samN a b))/\Chg (fun _=>False) w w':=by
 obtain ⟨h1,h2⟩:=cells2 w 90 90 (nA a) (nA b);have C0:=zI (chg2 w (.cells (nA a) 90) (.cells (nA b) 90));obtain ⟨w1,hw1⟩:∃ w1,w1=(w.alloc (.cells (nA a) 90)).alloc (.cells (nA b) 90):=⟨_,rfl⟩;have fa:=ncells h1;have fb:=ncells h2;rw[<-hw1] at h1 h2 C0;have HA:=zI (fun (w':World) (h:Chg (fun _=>False) w1 w')=>ncells (h1.chg h (fun h=>h)));have HB:=zI (fun (w':World) (h:Chg (fun _=>False) w1 w')=>ncells (h2.chg h (fun h=>h)));have HZ:=zI (same22_any w1 a.z b.z (ha.later C0.out).z (hb.later C0.out).z);have HD:=zI (fun (w':World) (h:Chg (fun _=>False) w1 w')=>same10_any w' a.aD b.aD a.cD b.cD a.did b.did ((ha.later C0.out).later h).did ((hb.later C0.out).later h).did ha.few.1);have HC:=zI (fun (w':World) (h:Chg (fun _=>False) w1 w')=>same10_any w' a.aC b.aC a.cC b.cC a.cnt b.cnt ((ha.later C0.out).later h).cnt ((hb.later C0.out).later h).cnt ha.few.2);obtain ⟨z,hz⟩:∃ z,z=samZ a.z b.z:=⟨_,rfl⟩;obtain ⟨q,hq⟩:∃ q,q=decide (a.did=b.did):=⟨_,rfl⟩;obtain ⟨r,hr⟩:∃ r,r=decide (a.cnt=b.cnt):=⟨_,rfl⟩;obtain ⟨o,ho⟩:∃ o,(a.op ==b.op)=o:=⟨_,rfl⟩;obtain ⟨d,hd⟩:∃ d,(a.dn ==b.dn)=d:=⟨_,rfl⟩;have hv:Hid (samN a b=(z && (o && (d && (q && r))))):=by show _=_;unfold samN;rw[<-hz,<-hq,<-hr,ho,hd]
 rw[<-hz] at HZ;rw[<-hq] at HD;rw[<-hr] at HC;clear h1 h2 ha hb hz hq hr;obtain ⟨a0,a1,a2,a3,a4,a5⟩:=fa;obtain ⟨b0,b1,b2,b3,b4,b5⟩:=fb;unfold zA at HZ;unfold nA at hw1 a0 a1 a2 a3 a4 a5 b0 b1 b2 b3 b4 b5 |-;cases z with
 | false=>
  go_enter Tryz.func61,Tryz.ntmps61;go_wp2_with (first | (go_at_call 93;rw[<-hw1];refine HZ.out.mono ?_;rintro e w2 ⟨rfl,hC2⟩;have C2:=zI hC2;obtain ⟨x0,x1,x2,x3,x4,x5⟩:=HA.out w2 hC2;obtain ⟨y0,y1,y2,y3,y4,y5⟩:=HB.out w2 hC2;clear hC2 HZ hw1 a0 a1 a2 a3 a4 a5 b0 b1 b2 b3 b4 b5))
  go_ret;exact ⟨by rw[hv.out];rfl,Ct C0.out (by first | exact C2.out | (rw[<-World.drewN_drewN];exact C2.out))⟩
 | true=>
  cases o with
  | false=>
   go_enter Tryz.func61,Tryz.ntmps61;go_wp2_with (first | (go_at_call 93;rw[<-hw1];refine HZ.out.mono ?_;rintro e w2 ⟨rfl,hC2⟩;have C2:=zI hC2;obtain ⟨x0,x1,x2,x3,x4,x5⟩:=HA.out w2 hC2;obtain ⟨y0,y1,y2,y3,y4,y5⟩:=HB.out w2 hC2;clear hC2 HZ hw1 a0 a1 a2 a3 a4 a5 b0 b1 b2 b3 b4 b5))
   go_ret;exact ⟨by rw[hv.out];rfl,Ct C0.out (by first | exact C2.out | (rw[<-World.drewN_drewN];exact C2.out))⟩
  | true=>
   cases d with
   | false=>
    go_enter Tryz.func61,Tryz.ntmps61;go_wp2_with (first | (go_at_call 93;rw[<-hw1];refine HZ.out.mono ?_;rintro e w2 ⟨rfl,hC2⟩;have C2:=zI hC2;obtain ⟨x0,x1,x2,x3,x4,x5⟩:=HA.out w2 hC2;obtain ⟨y0,y1,y2,y3,y4,y5⟩:=HB.out w2 hC2;clear hC2 HZ hw1 a0 a1 a2 a3 a4 a5 b0 b1 b2 b3 b4 b5))
    go_ret;exact ⟨by rw[hv.out];rfl,Ct C0.out (by first | exact C2.out | (rw[<-World.drewN_drewN];exact C2.out))⟩
   | true=>
    cases q with
    | false=>
     go_enter Tryz.func61,Tryz.ntmps61;go_wp2_with (first | (go_at_call 93;rw[<-hw1];refine HZ.out.mono ?_;rintro e w2 ⟨rfl,hC2⟩;have C2:=zI hC2;obtain ⟨x0,x1,x2,x3,x4,x5⟩:=HA.out w2 hC2;obtain ⟨y0,y1,y2,y3,y4,y5⟩:=HB.out w2 hC2;clear hC2 HZ hw1 a0 a1 a2 a3 a4 a5 b0 b1 b2 b3 b4 b5) | (go_at_call 94;refine (HD.out w2 C2.out).mono ?_;rintro e w3 ⟨rfl,n3,rfl⟩;have C3:=zI (C2.out.drewN n3);clear HD))
     go_ret;exact ⟨by rw[hv.out];rfl,Ct C0.out (by first | exact C3.out | (rw[<-World.drewN_drewN];exact C3.out))⟩
    | true=>
     go_enter Tryz.func61,Tryz.ntmps61;go_wp2_with (first | (go_at_call 93;rw[<-hw1];refine HZ.out.mono ?_;rintro e w2 ⟨rfl,hC2⟩;have C2:=zI hC2;obtain ⟨x0,x1,x2,x3,x4,x5⟩:=HA.out w2 hC2;obtain ⟨y0,y1,y2,y3,y4,y5⟩:=HB.out w2 hC2;clear hC2 HZ hw1 a0 a1 a2 a3 a4 a5 b0 b1 b2 b3 b4 b5) | (go_at_call 94;refine (HD.out w2 C2.out).mono ?_;rintro e w3 ⟨rfl,n3,rfl⟩;have C3:=zI (C2.out.drewN n3);clear HD) | (go_at_call 94;refine (HC.out _ C3.out).mono ?_;rintro e w4 ⟨rfl,n4,rfl⟩;have C4:=zI (C3.out.drewN n4);clear HC))
     go_ret;exact ⟨by rw[hv.out];rfl,Ct C0.out (by first | exact C4.out | (rw[<-World.drewN_drewN];exact C4.out))⟩
structure ZsOK (w:World) (A:Option Addr) (l:List ZC):Prop where
 rd:Rd w w.heap.size A (l.flatMap zC)
 each:∀ z ∈ l,ZOK w z
theorem ZsOK.later {w w':World} {A:Option Addr} {l:List ZC} (h:ZsOK w A l) (hc:Chg (fun _=>False) w w'):ZsOK w' A l:=⟨h.rd.later hc (fun _ h=>h.elim),fun z hz=>(h.each z hz).later hc⟩
theorem zC_len (z:ZC):(zC z).length=2:=rfl
theorem nC_len (n:NC):(nC n).length=6:=rfl
structure NsOK (w:World) (A:Option Addr) (l:List NC):Prop where
 rd:Rd w w.heap.size A (l.flatMap nC)
 each:∀ z ∈ l,NOK w z
theorem NsOK.later {w w':World} {A:Option Addr} {l:List NC} (h:NsOK w A l) (hc:Chg (fun _=>False) w w'):NsOK w' A l:=⟨h.rd.later hc (fun _ h=>h.elim),fun z hz=>(h.each z hz).later hc⟩
structure SpC where
 ev:Int
 us:Int
 n:NC
def spC (s:SpC):List Value:=.int .i64 s.ev::.int .i64 s.us::nC s.n
def spA (s:SpC):Array Value:=#[.int .i64 s.ev,.int .i64 s.us,.slice s.n.z.cA s.n.z.cl.length s.n.z.cC,.slice s.n.z.gA s.n.z.gl.length s.n.z.gC,.int .i64 s.n.op,.int .i64 s.n.dn,.slice s.n.aD s.n.did.length s.n.cD,.slice s.n.aC s.n.cnt.length s.n.cC]
theorem spC_len (s:SpC):(spC s).length=8:=rfl
structure SpsOK (w:World) (A:Option Addr) (l:List SpC):Prop where
 rd:Rd w w.heap.size A (l.flatMap spC)
 each:∀ s ∈ l,NOK w s.n
theorem SpsOK.later {w w':World} {A:Option Addr} {l:List SpC} (h:SpsOK w A l) (hc:Chg (fun _=>False) w w'):SpsOK w' A l:=⟨h.rd.later hc (fun _ h=>h.elim),fun z hz=>(h.each z hz).later hc⟩
theorem has25_any (w:World) (A:Option Addr) (c:Nat) (l:List ZC) (z:ZC) (hA:ZsOK w A l) (hz:ZOK w z) (hl:l.length<=1000000000000):Calls Tryz.prog 115 #[.slice A l.length c,.agg (zA z)] w fun e w'=>(∃ b,e=.returned (.bool b))/\Chg (fun _=>False) w w':=by
 have h1:=Blk.new w 88 (zA z);have C0:=zI ((Chg.refl (fun _=>False) w).alloc (.cells (zA z) 88));obtain ⟨w1,hw1⟩:∃ w1,w1=w.alloc (.cells (zA z) 88):=⟨_,rfl⟩;rw[<-hw1] at h1 C0;have HA:=zI (fun (w':World) (h:Chg (fun _=>False) w1 w')=>(hA.later C0.out).later h);have HS:=zI (fun (w':World) (h:Chg (fun _=>False) w1 w') (x:ZC) (hx:x ∈ l)=>same22_any w' x z (((hA.later C0.out).later h).each x hx) ((hz.later C0.out).later h));have HB:=zI (fun (w':World) (h:Chg (fun _=>False) w1 w')=>(⟨by rw[(h1.chg h (fun h=>h)).cell];rfl,by rw[(h1.chg h (fun h=>h)).cell];rfl⟩:w'.cell? ⟨w.heap.size,0,none⟩=some (.slice z.cA z.cl.length z.cC)/\w'.cell? ⟨w.heap.size,1,none⟩=some (.slice z.gA z.gl.length z.gC)));clear hA hz h1;unfold zA at HS hw1 |-;go_enter Tryz.func115,Tryz.ntmps115;go_wp2_with fail
 rw[<-hw1];clear hw1;go_loopw [5] (fun x wr=>∃ j:Nat,j<=l.length/\x=.int .i64 j/\Hid (Chg (fun _=>False) w1 wr)) (fun x _=>l.length - (intOf x).toNat)
 case atStart=>exact ⟨0,Nat.zero_le _,rfl,Chg.refl _ _⟩
 case round=>
  obtain ⟨j,hj,rfl,hC⟩:=hrel;by_cases hlt:j < l.length
  ·obtain ⟨x,hx⟩:∃ x,l[j]?=some x:=⟨_,gG hlt⟩;obtain ⟨b0,o0,rfl,_,hc⟩:=row_at zC_len (by omega) (HA.out wr hC.out).rd hx;have c0:=hc 0 _ rfl;have c1:=hc 1 _ rfl;rw[Nat.add_zero] at c0;have K0:=fun n:KW wr=>kept_cell c0 n
   have K1:=fun n:KW wr=>kept_cell c1 n
   have F0:=fun n:KW wr=>(HB.out n.w (Ct hC.out n.h)).1
   have F1:=fun n:KW wr=>(HB.out n.w (Ct hC.out n.h)).2
   have HL:=zI (fun n:KW wr=>kept_call (HS.out n.w (Ct hC.out n.h) x (List.mem_of_getElem? hx)));obtain ⟨b,hb⟩:∃ b,b=samZ x z:=⟨_,rfl⟩;rw[<-hb] at HL;clear hc c0 c1 hb hx;go_wp2_with fail
   refine wp_region_kept wr (Chg.refl _ _) (by kernel_rfl) (by kernel_rfl) ?_;repeat (go_big_quiet_step (with_reducible exact HL.out _))
   refine wpQuiet_nil ?_;rintro w4 ⟨n,rfl⟩;have C4:=zI (Ct hC.out n.h);obtain ⟨w5,hw5⟩:∃ w5,w5=n.w:=⟨_,rfl⟩;rw[<-hw5] at C4 |-;clear hw5 F0 F1 K0 K1 HL;cases b with
   | true=>
    go_wp2
    go_ret;exact ⟨⟨_,rfl⟩,Ct C0.out C4.out⟩
   | false=>
    go_wp2_with fail
    go_roundw
    case rel=>exact ⟨j+1,by omega,by go_num,C4⟩
    case measure=>(simp[intOf]<;>omega)
  ·obtain rfl:j=l.length:=by omega
   go_wp2
   go_ret;exact ⟨⟨_,rfl⟩,Ct C0.out hC.out⟩
theorem find30_any (w:World) (A:Option Addr) (c:Nat) (l:List NC) (n:NC) (hA:NsOK w A l) (hz:NOK w n) (hl:l.length<=1000000000000):Calls Tryz.prog 29 #[.slice A l.length c,.agg (nA n)] w fun e w'=>(∃ i:Int,e=.returned (.int .i64 i)/\(i=-1\/(0<=i/\i < l.length)))/\Chg (fun _=>False) w w':=by
 have h1:=Blk.new w 90 (nA n);have C0:=zI ((Chg.refl (fun _=>False) w).alloc (.cells (nA n) 90));obtain ⟨w1,hw1⟩:∃ w1,w1=w.alloc (.cells (nA n) 90):=⟨_,rfl⟩;rw[<-hw1] at h1 C0;have HA:=zI (fun (w':World) (h:Chg (fun _=>False) w1 w')=>(hA.later C0.out).later h);have HS:=zI (fun (w':World) (h:Chg (fun _=>False) w1 w') (x:NC) (hx:x ∈ l)=>same27_any w' x n (((hA.later C0.out).later h).each x hx) ((hz.later C0.out).later h));have HB:=zI (fun (w':World) (h:Chg (fun _=>False) w1 w')=>ncells (h1.chg h (fun h=>h)));clear hA hz h1;unfold nA at HS hw1 |-;go_enter Tryz.func29,Tryz.ntmps29;go_wp2_with fail
 rw[<-hw1];clear hw1;go_loopw [5] (fun x wr=>∃ j:Nat,j<=l.length/\x=.int .i64 j/\Hid (Chg (fun _=>False) w1 wr)) (fun x _=>l.length - (intOf x).toNat)
 case atStart=>exact ⟨0,Nat.zero_le _,rfl,Chg.refl _ _⟩
 case round=>
  obtain ⟨j,hj,rfl,hC⟩:=hrel;by_cases hlt:j < l.length
  ·obtain ⟨x,hx⟩:∃ x,l[j]?=some x:=⟨_,gG hlt⟩;obtain ⟨b0,o0,rfl,_,hc⟩:=row_at nC_len (by omega) (HA.out wr hC.out).rd hx;have c0:=hc 0 _ rfl;rw[Nat.add_zero] at c0;have c1:=hc 1 _ rfl;have c2:=hc 2 _ rfl;have c3:=hc 3 _ rfl;have c4:=hc 4 _ rfl;have c5:=hc 5 _ rfl;have K0:=fun n:KW wr=>kept_cell c0 n
   have K1:=fun n:KW wr=>kept_cell c1 n
   have K2:=fun n:KW wr=>kept_cell c2 n
   have K3:=fun n:KW wr=>kept_cell c3 n
   have K4:=fun n:KW wr=>kept_cell c4 n
   have K5:=fun n:KW wr=>kept_cell c5 n
   have M0:=fun n:KW wr=>HB.out n.w (Ct hC.out n.h)
   have F0:=fun n:KW wr=>(M0 n).1
   have F1:=fun n:KW wr=>(M0 n).2.1
   have F2:=fun n:KW wr=>(M0 n).2.2.1
   have F3:=fun n:KW wr=>(M0 n).2.2.2.1
   have F4:=fun n:KW wr=>(M0 n).2.2.2.2.1
   have F5:=fun n:KW wr=>(M0 n).2.2.2.2.2
   have HL:=zI (fun n:KW wr=>kept_call (HS.out n.w (Ct hC.out n.h) x (List.mem_of_getElem? hx)));obtain ⟨b,hb⟩:∃ b,b=samN x n:=⟨_,rfl⟩;rw[<-hb] at HL;clear hc c0 c1 c2 c3 c4 c5 hb hx M0;go_wp2_with fail
   refine wp_region_kept wr (Chg.refl _ _) (by kernel_rfl) (by kernel_rfl) ?_;repeat (go_big_quiet_step (with_reducible exact HL.out _))
   refine wpQuiet_nil ?_;rintro w4 ⟨n,rfl⟩;have C4:=zI (Ct hC.out n.h);obtain ⟨w5,hw5⟩:∃ w5,w5=n.w:=⟨_,rfl⟩;rw[<-hw5] at C4 |-;clear hw5 F0 F1 F2 F3 F4 F5 K0 K1 K2 K3 K4 K5 HL;cases b with
   | true=>
    go_wp2
    go_ret;exact ⟨⟨j,rfl,.inr ⟨by omega,by omega⟩⟩,Ct C0.out C4.out⟩
   | false=>
    go_wp2_with fail
    go_roundw
    case rel=>exact ⟨j+1,by omega,by go_num,C4⟩
    case measure=>(simp[intOf]<;>omega)
  ·obtain rfl:j=l.length:=by omega
   go_wp2
   go_ret;exact ⟨⟨-1,rfl,.inl rfl⟩,Ct C0.out hC.out⟩
theorem spcells {w:World} {g:Nat} {s:SpC} (h:Blk w g 96 (spA s)):w.cell? ⟨g,0,none⟩=some (.int .i64 s.ev)/\w.cell? ⟨g,1,none⟩=some (.int .i64 s.us)/\w.cell? ⟨g,2,none⟩=some (.slice s.n.z.cA s.n.z.cl.length s.n.z.cC)/\w.cell? ⟨g,3,none⟩=some (.slice s.n.z.gA s.n.z.gl.length s.n.z.gC)/\w.cell? ⟨g,4,none⟩=some (.int .i64 s.n.op)/\w.cell? ⟨g,5,none⟩=some (.int .i64 s.n.dn)/\w.cell? ⟨g,6,none⟩=some (.slice s.n.aD s.n.did.length s.n.cD)/\w.cell? ⟨g,7,none⟩=some (.slice s.n.aC s.n.cnt.length s.n.cC):=by
 refine ⟨?_,?_,?_,?_,?_,?_,?_,?_⟩<;>rw[h.cell]<;>rfl
theorem has28_any (w:World) (A:Option Addr) (c:Nat) (l:List SpC) (s:SpC) (hA:SpsOK w A l) (hz:NOK w s.n) (hl:l.length<=1000000000000):Calls Tryz.prog 59 #[.slice A l.length c,.agg (spA s)] w fun e w'=>(∃ b,e=.returned (.bool b))/\Chg (fun _=>False) w w':=by
 have h1:=Blk.new w 96 (spA s);have C0:=zI ((Chg.refl (fun _=>False) w).alloc (.cells (spA s) 96));obtain ⟨w1,hw1⟩:∃ w1,w1=w.alloc (.cells (spA s) 96):=⟨_,rfl⟩;rw[<-hw1] at h1 C0;have HA:=zI (fun (w':World) (h:Chg (fun _=>False) w1 w')=>(hA.later C0.out).later h);have HS:=zI (fun (w':World) (h:Chg (fun _=>False) w1 w') (x:SpC) (hx:x ∈ l)=>same27_any w' x.n s.n (((hA.later C0.out).later h).each x hx) ((hz.later C0.out).later h));have HB:=zI (fun (w':World) (h:Chg (fun _=>False) w1 w')=>spcells (h1.chg h (fun h=>h)));clear hA hz h1;unfold nA at HS;unfold spA at hw1 |-;go_enter Tryz.func59,Tryz.ntmps59;go_wp2_with fail
 rw[<-hw1];clear hw1;go_loopw [5] (fun x wr=>∃ j:Nat,j<=l.length/\x=.int .i64 j/\Hid (Chg (fun _=>False) w1 wr)) (fun x _=>l.length - (intOf x).toNat)
 case atStart=>exact ⟨0,Nat.zero_le _,rfl,Chg.refl _ _⟩
 case round=>
  obtain ⟨j,hj,rfl,hC⟩:=hrel;by_cases hlt:j < l.length
  ·obtain ⟨x,hx⟩:∃ x,l[j]?=some x:=⟨_,gG hlt⟩;obtain ⟨b0,o0,rfl,_,hc⟩:=row_at spC_len (by omega) (HA.out wr hC.out).rd hx;have c0:=hc 0 _ rfl;rw[Nat.add_zero] at c0;have c1:=hc 1 _ rfl;have c2:=hc 2 _ rfl;have c3:=hc 3 _ rfl;have c4:=hc 4 _ rfl;have c5:=hc 5 _ rfl;have c6:=hc 6 _ rfl;have c7:=hc 7 _ rfl;have K0:=fun n:KW wr=>kept_cell c0 n
   have K1:=fun n:KW wr=>kept_cell c1 n
   have K2:=fun n:KW wr=>kept_cell c2 n
   have K3:=fun n:KW wr=>kept_cell c3 n
   have K4:=fun n:KW wr=>kept_cell c4 n
   have K5:=fun n:KW wr=>kept_cell c5 n
   have K6:=fun n:KW wr=>kept_cell c6 n
   have K7:=fun n:KW wr=>kept_cell c7 n
   have M0:=fun n:KW wr=>HB.out n.w (Ct hC.out n.h)
   have F0:=fun n:KW wr=>(M0 n).1
   have F1:=fun n:KW wr=>(M0 n).2.1
   have F2:=fun n:KW wr=>(M0 n).2.2.1
   have F3:=fun n:KW wr=>(M0 n).2.2.2.1
   have F4:=fun n:KW wr=>(M0 n).2.2.2.2.1
   have F5:=fun n:KW wr=>(M0 n).2.2.2.2.2.1
   have F6:=fun n:KW wr=>(M0 n).2.2.2.2.2.2.1
   have F7:=fun n:KW wr=>(M0 n).2.2.2.2.2.2.2
   have HL:=zI (fun n:KW wr=>kept_call (HS.out n.w (Ct hC.out n.h) x (List.mem_of_getElem? hx)));obtain ⟨b,hb⟩:∃ b,b=samN x.n s.n:=⟨_,rfl⟩;rw[<-hb] at HL;obtain ⟨e1,he1⟩:∃ e1,(x.ev ==s.ev)=e1:=⟨_,rfl⟩;obtain ⟨e2,he2⟩:∃ e2,(x.us ==s.us)=e2:=⟨_,rfl⟩;clear hc c0 c1 c2 c3 c4 c5 c6 c7 hb hx M0;cases e1 with
   | false=>
    go_wp2_with fail
    refine wp_region_kept wr (Chg.refl _ _) (by kernel_rfl) (by kernel_rfl) ?_;repeat (go_big_quiet_step (with_reducible exact HL.out _))
    refine wpQuiet_nil ?_;rintro w4 ⟨n,rfl⟩;have C4:=zI (Ct hC.out n.h);obtain ⟨w5,hw5⟩:∃ w5,w5=n.w:=⟨_,rfl⟩;rw[<-hw5] at C4 |-;clear hw5 F0 F1 F2 F3 F4 F5 F6 F7 K0 K1 K2 K3 K4 K5 K6 K7 HL;go_wp2_with fail
    go_roundw
    case rel=>exact ⟨j+1,by omega,by go_num,C4⟩
    case measure=>(simp[intOf]<;>omega)
   | true=>
    cases e2 with
    | false=>
     go_wp2_with fail
     refine wp_region_kept wr (Chg.refl _ _) (by kernel_rfl) (by kernel_rfl) ?_;repeat (go_big_quiet_step (with_reducible exact HL.out _))
     refine wpQuiet_nil ?_;rintro w4 ⟨n,rfl⟩;have C4:=zI (Ct hC.out n.h);obtain ⟨w5,hw5⟩:∃ w5,w5=n.w:=⟨_,rfl⟩;rw[<-hw5] at C4 |-;clear hw5 F0 F1 F2 F3 F4 F5 F6 F7 K0 K1 K2 K3 K4 K5 K6 K7 HL;go_wp2_with fail
     go_roundw
     case rel=>exact ⟨j+1,by omega,by go_num,C4⟩
     case measure=>(simp[intOf]<;>omega)
    | true=>
     go_wp2_with fail
     refine wp_region_kept wr (Chg.refl _ _) (by kernel_rfl) (by kernel_rfl) ?_;repeat (go_big_quiet_step (with_reducible exact HL.out _))
     refine wpQuiet_nil ?_;rintro w4 ⟨n,rfl⟩;have C4:=zI (Ct hC.out n.h);obtain ⟨w5,hw5⟩:∃ w5,w5=n.w:=⟨_,rfl⟩;rw[<-hw5] at C4 |-;clear hw5 F0 F1 F2 F3 F4 F5 F6 F7 K0 K1 K2 K3 K4 K5 K6 K7 HL;cases b with
     | true=>
      go_wp2
      go_ret;exact ⟨⟨_,rfl⟩,Ct C0.out C4.out⟩
     | false=>
      go_wp2_with fail
      go_roundw
      case rel=>exact ⟨j+1,by omega,by go_num,C4⟩
      case measure=>(simp[intOf]<;>omega)
  ·obtain rfl:j=l.length:=by omega
   go_wp2
   go_ret;exact ⟨⟨_,rfl⟩,Ct C0.out hC.out⟩
end
end Go.Proofs.YthohgagkjnbkbaaGreat
