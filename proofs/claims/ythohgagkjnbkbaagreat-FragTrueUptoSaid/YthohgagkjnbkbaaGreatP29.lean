/- FragTrue, part 29: FrZa FrZb. Each theorem says what a function does, or a plain fact, under its own premises alone. -/
import Derived.Test.YthohgagkjnbkbaaGreatP28
set_option maxRecDepth 100000
set_option maxHeartbeats 16000000
namespace Go.Proofs.YthohgagkjnbkbaaGreat
section
open Go.RowKit
theorem soC_one (l:List (Int × Int)):∀ u ∈ l.flatMap soC,u.oneCell'=true:=fun u hu=>by
 obtain ⟨x,_,hx⟩:=List.mem_flatMap.1 hu;simp[soC] at hx;rcases hx with rfl | rfl<;>rfl
theorem soC_len (l:List (Int × Int)):(l.flatMap soC).length=l.length * 2:=flat_len soC (fun _=>rfl) l
theorem intsV_len (l:List Int):(intsV l).length=l.length:=by simp[intsV]
theorem app_ca {w0 wr w':World} {v:Value} {t:TypeId} {size n:Nat} {xs:List Value} (ho:wr.ownsRow w0.heap.size t size v n xs) (hC:Chg (fun _=>False) w0 wr) (o:Obj) (hg:(wr.alloc o).grownBy w' v.ownBlock):Chg (fun _=>False) w0 w':=
 Chg.trans hC (Chg.grown (S:=fun k=>v.ownBlock=some k) ((Chg.refl _ wr).alloc o) hg (fun k hk=>.inl hk)) (fun i hi e=>by have:=(ho.lt i e).1;omega)
theorem own_less {w:World} {base base' n size:Nat} {e:TypeId} {v:Value} {xs:List Value} (h:w.ownsRow base e size v n xs) (hb:base'<=base):w.ownsRow base' e size v n xs:=by
 obtain ⟨h1,h2⟩:=h;refine ⟨h1,?_⟩;rcases h2 with h2 | ⟨g,cap,cur,h3,hg,r⟩
 ·exact .inl h2
 ·exact .inr ⟨g,cap,cur,h3,Nat.le_trans hb hg,r⟩
theorem pair_info:(Tryz.prog.info? 62).map (fun i=>(i.zero,i.size,i.bytes))=some (some (.agg #[.int .i64 0,.int .i64 0]),2,16):=by kernel_rfl
theorem cls_info:(Tryz.prog.info? 194).map (fun i=>(i.zero,i.size,i.bytes))=some (some (.agg #[.int .i64 0,.int .i64 0]),2,16):=by kernel_rfl
theorem so_at {w:World} {B:Nat} {A:Option Addr} {l:List (Int × Int)} (h:Rd w B A (l.flatMap soC)) {i:Nat} {x:Int × Int} (hi:l[i]?=some x):∃ b o,A=some ⟨b,o,none⟩/\b < B/\w.cell? ⟨b,o+i * 2,none⟩=some (.int .i64 x.1)/\w.cell? ⟨b,o+i * 2+1,none⟩=some (.int .i64 x.2):=by
 obtain ⟨b,o,hA,hb,hc⟩:=row_at (f:=soC) (C:=2) (fun _=>rfl) (by omega) h hi;exact ⟨b,o,hA,hb,hc 0 _ rfl,hc 1 _ rfl⟩
theorem srt_le (l:List Int):(srt l).length<=l.length:=srtUp_le l l.length (Nat.le_refl _)
theorem gapF_any (w:World) (a b m:Int) (hm:m<=10000000):Calls Tryz.prog 106 #[.int .i64 a,.int .i64 b,.int .i64 m] w fun e w'=>(∃ n:Int,e=.returned (.int .i64 n)/\0<=n/\(n<=m\/n=0))/\w=w':=by
 go_enter Tryz.func106,Tryz.ntmps106;go_wp2_with fail
 go_loopw [0,7] (fun x y wr=>∃ (x' n:Int),x=.int .i64 x'/\y=.int .i64 n/\0<=n/\(n<=m\/n=0)/\w=wr) (fun _ y _=>(m - intOf y).toNat)
 case atStart=>exact ⟨a,0,rfl,rfl,Int.le_refl _,.inr rfl,rfl⟩
 case round=>
  obtain ⟨a,n,rfl,rfl,h0,h1,rfl⟩:=hrel;by_cases hnm:n < m
  ·have d1:decide (n < m)=true:=by simpa using hnm
   obtain ⟨b2,q2⟩:∃ c,decide (a < b)=c:=⟨_,rfl⟩;obtain ⟨b3,q3⟩:∃ c,decide (wrap64 (a+1) < b)=c:=⟨_,rfl⟩;cases b2 with
   | true=>
    cases b3 with
    | true=>
     go_wp2_with fail
     go_roundw
     case rel=>exact ⟨_,n+1,rfl,by go_num,by omega,.inl (by omega),trivial⟩
     case measure=>(simp[intOf]<;>omega)
    | false=>
     go_wp2
     go_ret;exact ⟨⟨n,rfl,h0,h1⟩,rfl⟩
   | false=>
    go_wp2
    go_ret;exact ⟨⟨n,rfl,h0,h1⟩,rfl⟩
  ·have d1:decide (n < m)=false:=by simpa using hnm
   go_wp2
   go_ret;exact ⟨⟨n,rfl,h0,h1⟩,rfl⟩
theorem n22_any (w:World) (A:Option Addr) (c:Nat) (a:List Int) (D:Option Addr) (d:Nat) (q:List Int) (hA:Rd w w.heap.size A (intsV a)) (hD:Rd w w.heap.size D (intsV q)) (hl:a.length<=1000/\q.length<=1000):Calls Tryz.prog 105 #[.slice A a.length c,.slice D q.length d] w fun e w'=>(∃ B b,∃ l:List Int,e=.returned (.slice B l.length b)/\l.length<=a.length+q.length/\Rd w' w'.heap.size B (intsV l))/\Chg (fun _=>False) w w':=by
 obtain ⟨i,hi,hz0,hz1,hz2⟩:=info_3 int64_info;obtain ⟨l1,l2⟩:=hl;have HS:=zI (fun (w':World) (B:Option Addr) (b:Nat) (hB:Rd w' w'.heap.size B (intsV (a++q)))=>sorted_any w' (a++q) B b hB (by rw[List.length_append];omega));have hle:Hid ((srt (a++q)).length<=a.length+q.length):=by have:=srt_le (a++q);rw[List.length_append] at this;exact this
 have hlen:Hid ((a++q).length=a.length+q.length):=List.length_append;have hA1:=zI hA;have hD1:=zI hD;obtain ⟨na,hna⟩:∃ na,na=a.length:=⟨_,rfl⟩;obtain ⟨nq,hnq⟩:∃ nq,nq=q.length:=⟨_,rfl⟩;rw[<-hna,<-hnq] at hle hlen |-;rw[<-hna] at l1;rw[<-hnq] at l2;replace hna:=zI hna;replace hnq:=zI hnq;clear hA hD;go_enter Tryz.func105,Tryz.ntmps105;go_wp2_with (first | (at_builtin;refine wpList_copy rfl (.tmp 5) (.tmp 6) 23 rfl w.heap.size 2 i _ 1 8 Tryz.underlying23 hi hz0 hz1 hz2 rfl (by omega) (.slice (some ⟨w.heap.size,0,none⟩) 0 0) 0 [] rfl (by exact World.ownsRow_lit w #[] 0 (Nat.le_refl _) (Nat.zero_le _) rfl) A na c w.heap.size (intsV a) rfl (by rw[intsV_len,hna.out,Nat.mul_one]) (hA1.out.alloc (Nat.le_refl _) _) (intsV_one _) (by unfold maxLen;omega) (by omega) (by simp) ?_;intro v3 w3 hO3 hg3;have C3:Hid (Chg (fun _=>False) w w3):=(Chg.trans ((Chg.refl (fun _=>False) w).alloc (.cells #[] 2)) (Chg.grown (S:=fun k=>k=w.heap.size) (Chg.refl _ _) hg3 (fun k hk=>.inl (by simp[Value.ownBlock] at hk;omega))) (fun i hi e=>by omega));rw[Nat.zero_add,List.nil_append] at hO3;have O3:=zI hO3;clear hO3 hg3) | (at_builtin;refine wpList_copy rfl (.tmp 7) (.tmp 8) 23 rfl w.heap.size 2 i _ 1 8 Tryz.underlying23 hi hz0 hz1 hz2 rfl (by omega) v3 na (intsV a) rfl O3.out D nq d w.heap.size (intsV q) rfl (by rw[intsV_len,hnq.out,Nat.mul_one]) (hD1.out.chg C3.out (Nat.le_refl _) (fun _ h=>h.elim)) (intsV_one _) (by unfold maxLen;omega) (by omega) C3.out.size ?_;intro v4 w4 hO4 hg4;have C4:Hid (Chg (fun _=>False) w w4):=(grown_chg O3.out (Nat.le_refl _) C3.out hg4);obtain ⟨B4,b4,rfl,-,-⟩:=own_slice hO4;have HS4:=zI (HS.out w4 B4 b4 (by rw[intsV_append];exact (own_rd hO4)));rw[hlen.out] at HS4;unfold InR at HS4;clear hO4 hg4 C3 O3) | (go_at_call 26;refine HS4.out.mono ?_;rintro e w5 ⟨B5,b5,rfl,-,hR5,hC5⟩;have R5:=zI hR5;have C5:=zI (Ct C4.out hC5);clear hR5 hC5))
 go_ret;exact ⟨⟨B5,b5,_,rfl,hle.out,R5.out⟩,C5.out⟩
def ClR (w0:World) (n:Nat) (r:Int) (v:Value) (w':World):Prop:=∃ q:List Int,q.length=n/\(∀ x ∈ q,0<=x/\x<=capN r)/\w'.ownsRow w0.heap.size 3 1 v q.length (intsV q)
def IsB (e:Ending):Prop:=∃ b,e=.returned (.bool b)
def TrR (w0:World) (v:Value) (w':World):Prop:=∃ l:List (Int × Int),l.length<=1000/\w'.ownsRow w0.heap.size 62 2 v l.length (l.flatMap soC)
theorem clipped_any (w:World) (A:Option Addr) (c:Nat) (l:List Int) (r:Int) (hA:Rd w w.heap.size A (intsV l)) (hl:l.length<=100000):Calls Tryz.prog 125 #[.slice A l.length c,.int .i64 r] w fun e w'=>(∃ v,e=.returned v/\ClR w l.length r v w')/\Chg (fun _=>False) w w':=by
 obtain ⟨i,hi,hz0,hz1,hz2⟩:=info_3 int_info;replace hA:=zI hA;have HK:=zI (fun (w':World) (g:Int)=>clip_any w' g r);have hcl:=zI (fun g=>clip_le g r);go_enter Tryz.func125,Tryz.ntmps125;go_wp2_with fail
 go_loopw [6,5] (fun x v wr=>∃ (j:Nat) (q:List Int),j<=l.length/\x=.int .i64 j/\q.length=j/\Hid (∀ x ∈ q,0<=x/\x<=capN r)/\Hid (wr.ownsRow w.heap.size 3 1 v j (intsV q))/\Hid (Chg (fun _=>False) w wr)) (fun x _ _=>l.length - (intOf x).toNat)
 case atStart=>exact ⟨0,[],Nat.zero_le _,rfl,rfl,zI (by simp),zI (World.ownsRow_nil _ _ _ _),Chg.refl _ _⟩
 case round=>
  obtain ⟨j,q,hj,rfl,hq,hI,hO,hC⟩:=hrel;by_cases hlt:j < l.length
  ·obtain ⟨x,hx⟩:∃ x,l[j]?=some x:=⟨_,gG hlt⟩;obtain ⟨b0,o0,rfl,_,c0⟩:=int_at (hA.out.later hC.out (fun _ h=>h.elim)) hx;have HK2:=zI (HK.out wr x);have hc2:=zI (hcl.out x);obtain ⟨y,hy⟩:∃ y,y=clipN x r:=⟨_,rfl⟩;rw[<-hy] at HK2 hc2;replace hq:=zI hq;clear hx hy;go_wp2_with (first | (go_at_call 126;refine HK2.out.mono ?_;rintro e w' ⟨rfl,rfl⟩) | (at_builtin;refine wpList_append_own _ rfl (.tmp 13) (.tmp 20) 52 rfl w.heap.size 3 i _ 1 8 Tryz.underlying52 hi hz0 hz1 hz2 rfl (by omega) u5 j (intsV q) rfl (by exact hO.out.alloc _) ⟨wr.heap.size,0,none⟩ 1 1 [.int .i64 y] rfl rfl (by exact all_new (Blk.new wr 3 #[.int .i64 y])) (by intro u hu;simp at hu;subst hu;rfl) (by unfold maxLen;omega) (by omega) (by have:=hC.out.size;simp;omega) ?_;intro v' w3 hown3 hg3 hat3;have HO3:=zI hown3;have HC3:=zI (app1 hO.out hC.out _ hg3);clear hown3 hg3 hat3))
   go_roundw
   case rel=>exact ⟨j+1,q++[y],by omega,by go_num,by rw[List.length_append,hq.out];rfl,zI (by intro z hz;rcases List.mem_append.1 hz with hz | hz;exact hI.out z hz;rw[List.mem_singleton.1 hz];exact hc2.out),zI (by rw[intsV_append];exact HO3.out),HC3⟩
   case measure=>(simp[intOf]<;>omega)
  ·obtain rfl:j=l.length:=by omega
   have hq2:=zI hq;clear hq;go_wp2
   go_ret;exact ⟨⟨_,rfl,q,hq2.out,hI.out,by rw[hq2.out];exact hO.out⟩,hC.out⟩
theorem has21_any (w:World) (A:Option Addr) (c:Nat) (l:List (Int × Int)) (a b:Int) (hA:Rd w w.heap.size A (l.flatMap soC)) (hl:l.length<=100000):Calls Tryz.prog 128 #[.slice A l.length c,.int .i64 a,.int .i64 b] w fun e w'=>IsB e/\w=w':=by
 replace hA:=zI hA;go_enter Tryz.func128,Tryz.ntmps128;go_wp2_with fail
 go_loopw [7] (fun x wr=>∃ j:Nat,j<=l.length/\x=.int .i64 j/\w=wr) (fun x _=>l.length - (intOf x).toNat)
 case atStart=>exact ⟨0,Nat.zero_le _,rfl,rfl⟩
 case round=>
  obtain ⟨j,hj,rfl,rfl⟩:=hrel;by_cases hlt:j < l.length
  ·obtain ⟨⟨x,y⟩,hx⟩:∃ x,l[j]?=some x:=⟨_,gG hlt⟩;obtain ⟨b0,o0,rfl,_,c0,c1⟩:=so_at hA.out hx;obtain ⟨e1,q1⟩:∃ e,(x ==a)=e:=⟨_,rfl⟩;obtain ⟨e2,q2⟩:∃ e,(y ==b)=e:=⟨_,rfl⟩;clear hx;cases e1 with
   | false=>
    go_wp2_with fail
    go_roundw
    case rel=>exact ⟨j+1,by omega,by go_num,trivial⟩
    case measure=>(simp[intOf]<;>omega)
   | true=>
    cases e2 with
    | false=>
     go_wp2_with fail
     go_roundw
     case rel=>exact ⟨j+1,by omega,by go_num,trivial⟩
     case measure=>(simp[intOf]<;>omega)
    | true=>
     go_wp2
     go_ret;exact ⟨⟨_,rfl⟩,rfl⟩
  ·obtain rfl:j=l.length:=by omega
   go_wp2
   go_ret;exact ⟨⟨_,rfl⟩,rfl⟩
theorem true21_any (w:World) (g r:Int) (hg:g<=1000) (hr:1<=r/\r<=1000):Calls Tryz.prog 127 #[.int .i64 g,.int .i64 r] w fun e w'=>(∃ v,e=.returned v/\TrR w v w')/\Chg (fun _=>False) w w':=by
 obtain ⟨i,hi,hz0,hz1,hz2⟩:=info_3 pair_info;obtain ⟨hr1,hr2⟩:=hr;have HK:=zI (fun (w':World) (g:Int)=>clip_any w' g (r - 1));have HH:=zI (fun (w':World) (A:Option Addr) (c:Nat) (l:List (Int × Int)) (a b:Int) (hA:Rd w' w'.heap.size A (l.flatMap soC)) (hl:l.length<=100000)=>has21_any w' A c l a b hA hl);go_enter Tryz.func127,Tryz.ntmps127;go_wp2_with fail
 go_loopw [6,5,7,8] (fun x v _ _ wr=>∃ (j:Nat) (q:List (Int × Int)),j<=1000/\((j:Int)<=g\/j=0)/\x=.int .i64 j/\q.length<=j/\Hid (wr.ownsRow w.heap.size 62 2 v q.length (q.flatMap soC))/\Hid (Chg (fun _=>False) w wr)) (fun x _ _ _ _=>(g - intOf x).toNat)
 case atStart=>exact ⟨0,[],by omega,.inr rfl,rfl,Nat.le_refl _,zI (World.ownsRow_nil _ _ _ _),Chg.refl _ _⟩
 case round=>
  obtain ⟨j,q,hj,hjg,rfl,hq,hO,hC⟩:=hrel;by_cases hlt:(j:Int) < g
  ·have d1:decide ((j:Int) < g)=true:=by simpa using hlt
   have HK1:=zI (HK.out wr j);have HK2:=zI (HK.out wr (g - 1 - j));obtain ⟨x,hx⟩:∃ x,x=clipN j (r - 1):=⟨_,rfl⟩;obtain ⟨y,hy⟩:∃ y,y=clipN (g - 1 - j) (r - 1):=⟨_,rfl⟩;rw[<-hx] at HK1;rw[<-hy] at HK2;clear hx hy;obtain ⟨A,c,rfl,hqc,hcm⟩:=own_slice hO.out;have HH2:=zI (HH.out wr A c q x y (own_rdN hO.out) (by omega));clear hqc hcm;go_wp2_with (first | (go_at_call 126;first | (refine HK1.out.mono ?_;rintro e w' ⟨rfl,rfl⟩;clear HK1) | (refine HK2.out.mono ?_;rintro e w' ⟨rfl,rfl⟩;clear HK2)))
   go_at_call 128
   refine HH2.out.mono ?_;rintro e w' ⟨⟨b,rfl⟩,rfl⟩;cases b with
   | true=>
    go_wp2_with fail
    go_roundw
    case rel=>exact ⟨j+1,q,by omega,.inl (by omega),by go_num,by omega,hO,hC⟩
    case measure=>(simp[intOf]<;>omega)
   | false=>
    go_wp2_with (at_builtin;refine wpList_append_own _ rfl (.tmp 30) (.tmp 34) 200 rfl w.heap.size 62 i _ 2 16 Tryz.underlying200 hi hz0 hz1 hz2 rfl (by omega) (.slice A q.length c) q.length (q.flatMap soC) rfl (by exact hO.out.alloc _) ⟨wr.heap.size,0,none⟩ 1 1 [.int .i64 x,.int .i64 y] rfl rfl (by exact all_new (Blk.new wr 62 #[.int .i64 x,.int .i64 y])) (by intro u hu;simp at hu;rcases hu with rfl | rfl<;>rfl) (by unfold maxLen;omega) (by omega) (by have:=hC.out.size;simp;omega) ?_;intro v' w3 hown3 hg3 hat3;have HO3:=zI hown3;have HC3:=zI (app_ca hO.out hC.out _ hg3);clear hown3 hg3 hat3)
    go_roundw
    case rel=>exact ⟨j+1,q++[(x,y)],by omega,.inl (by omega),by go_num,by rw[List.length_append];simp;omega,zI (by rw[List.length_append,List.flatMap_append];exact HO3.out),HC3⟩
    case measure=>(simp[intOf]<;>omega)
  ·have d1:decide ((j:Int) < g)=false:=by simpa using hlt
   go_wp2
   go_ret;exact ⟨⟨_,rfl,q,by omega,hO.out⟩,hC.out⟩
theorem capN_small {r:Int} (h:r<=4):capN r<=15:=by
 have:2 ^ (min r 20).toNat<=2 ^ 4:=Nat.pow_le_pow_right (by omega) (by omega);unfold capN;omega
def SpR (w0:World) (r:Int) (v:Value) (w':World):Prop:=∃ l:List (Int × Int),l.length<=(capN (r - 1)+1) * (capN (r - 1)+1)/\(∀ x ∈ l,(0<=x.1/\x.1<=15)/\0<=x.2/\x.2<=15)/\w'.ownsRow w0.heap.size 62 2 v l.length (l.flatMap soC)
theorem splits_any (w:World) (g r:Int) (hr:r<=4):Calls Tryz.prog 113 #[.int .i64 g,.int .i64 r] w fun e w'=>(∃ v,e=.returned v/\SpR w r v w')/\Chg (fun _=>False) w w':=by
 obtain ⟨i,hi,hz0,hz1,hz2⟩:=info_3 pair_info;have hnil:Hid (SpR w r (.slice none 0 0) w):=⟨[],Nat.zero_le _,fun x h=>by simp at h,World.ownsRow_nil _ _ _ _⟩;by_cases h1:r < 1
 ·have d1:decide (r < 1)=true:=by simpa using h1
  clear h1;go_enter Tryz.func113,Tryz.ntmps113;go_wp2
  go_ret;exact ⟨⟨_,rfl,hnil.out⟩,Chg.refl _ _⟩
 have d1:decide (r < 1)=false:=by simpa using h1
 by_cases h2:g < 1
 ·have d2:decide (g < 1)=true:=by simpa using h2
  clear h1 h2;go_enter Tryz.func113,Tryz.ntmps113;go_wp2
  go_ret;exact ⟨⟨_,rfl,hnil.out⟩,Chg.refl _ _⟩
 have d2:decide (g < 1)=false:=by simpa using h2
 have HC1:=zI (fun w'=>clip_any w' g r);have HC2:=zI (fun w'=>cap_any w' r);have HC3':=zI (fun w'=>cap_any w' (r - 1));obtain ⟨n,hn⟩:∃ n,n=clipN g r:=⟨_,rfl⟩;obtain ⟨C,hC0⟩:∃ C,C=capN r:=⟨_,rfl⟩;have hnb:=clip_le g r;have hcs:=capN_small hr;have hks:=capN_small (r:=r - 1) (by omega);rw[<-hn] at HC1 hnb;rw[<-hC0] at HC2 hnb hcs;unfold SpR at hnil |-;obtain ⟨K,hK⟩:∃ K,K=capN (r - 1):=⟨_,rfl⟩;rw[<-hK] at HC3' hks hnil |-;obtain ⟨hn0,hn1⟩:=hnb;clear hn hC0 hK;have HT:=zI (fun (w':World) (g:Int) (hg:g<=1000)=>true21_any w' g r hg ⟨by omega,by omega⟩);have HH:=zI (fun (w':World) (A:Option Addr) (c:Nat) (l:List (Int × Int)) (a b:Int) (hA:Rd w' w'.heap.size A (l.flatMap soC)) (hl:l.length<=100000)=>has21_any w' A c l a b hA hl);have hmul:Hid (∀ a:Nat,(a+1) * (K+1)=a * (K+1)+(K+1)):=fun a=>by rw[Nat.add_mul,Nat.one_mul]
 have hbig:Hid (∀ a:Nat,a<=K+1->a * (K+1)<=256):=fun a ha=>Nat.le_trans (Nat.mul_le_mul ha (Nat.le_refl _)) (Nat.le_trans (Nat.mul_le_mul (show K+1<=16 by omega) (show K+1<=16 by omega)) (by decide))
 obtain ⟨bn,qn⟩:∃ b,(n ==(C:Int))=b:=⟨_,rfl⟩;have key:∀ n':Int,n'<=1000->True:=fun _ _=>trivial
 clear key;go_enter Tryz.func113,Tryz.ntmps113;cases bn with
 | true=>
  go_wp2_with (first | (go_at_call 126;refine (HC1.out _).mono ?_;rintro e w' ⟨rfl,rfl⟩) | (go_at_call 107;refine (HC2.out _).mono ?_;rintro e w' ⟨rfl,rfl⟩))
  go_at_call 127
  refine (HT.out w (3 * n+3) (by omega)).mono ?_;rintro e w2 ⟨⟨v2,rfl,l2,hl2,hO2⟩,hC2⟩;obtain ⟨A2,c2,rfl,-,-⟩:=own_slice hO2;have HR2:=zI (own_rdN hO2);have hC:=zI hC2;have hC2':=zI hC2;clear hO2 hC2 qn;go_wp2_with fail
  go_loopw [8,5,9] (fun x v _ wr=>∃ (a:Nat) (q:List (Int × Int)),a<=K+1/\x=.int .i64 a/\Hid (q.length<=a * (K+1))/\Hid (∀ x ∈ q,(0<=x.1/\x.1<=15)/\0<=x.2/\x.2<=15)/\Hid (wr.ownsRow w2.heap.size 62 2 v q.length (q.flatMap soC))/\Hid (Chg (fun _=>False) w2 wr)) (fun x _ _ _=>K+1 - (intOf x).toNat)
  case atStart=>exact ⟨0,[],Nat.zero_le _,rfl,Nat.zero_le _,zI (by simp),zI (World.ownsRow_nil _ _ _ _),Chg.refl _ _⟩
  case round=>
   obtain ⟨a,q,ha,rfl,hq,hI,hO,hCr⟩:=hrel;by_cases hlt:a<=K
   ·have da:decide ((a:Int)<=(K:Int))=true:=by rw[dT];omega
    have daN:decide (a<=K)=true:=by rw[dT];omega
    go_wp2_with (go_at_call 107;refine (HC3'.out _).mono ?_;rintro e w' ⟨rfl,rfl⟩)
    go_loopw [9,5] (fun x v wt=>∃ (b:Nat) (p:List (Int × Int)),b<=K+1/\x=.int .i64 b/\Hid (p.length<=a * (K+1)+b)/\Hid (∀ x ∈ p,(0<=x.1/\x.1<=15)/\0<=x.2/\x.2<=15)/\Hid (wt.ownsRow w2.heap.size 62 2 v p.length (p.flatMap soC))/\Hid (Chg (fun _=>False) w2 wt)) (fun x _ _=>K+1 - (intOf x).toNat)
    case atStart=>exact ⟨0,q,Nat.zero_le _,rfl,zI hq.out,hI,hO,hCr⟩
    case round=>
     rename World=>wp
     obtain ⟨b,p,hb,rfl,hp,hJ,hP,hCp⟩:=hrel;by_cases hlb:b<=K
     ·have db:decide ((b:Int)<=(K:Int))=true:=by rw[dT];omega
      have dbN:decide (b<=K)=true:=by rw[dT];omega
      have hpl:p.length<=1000:=by have:=hp.out;have:=hbig.out a (by omega);omega
      have hCw:Hid (Chg (fun _=>False) w wp):=Ct hC2'.out hCp.out;have HH2:=zI (HH.out wp A2 c2 l2 a b (HR2.out.later hCp.out (fun _ h=>h.elim)) (by omega));go_wp2_with (first | (go_at_call 107;refine (HC3'.out _).mono ?_;rintro e w' ⟨rfl,rfl⟩))
      go_at_call 128
      refine HH2.out.mono ?_;rintro e w' ⟨⟨hb',rfl⟩,rfl⟩;cases hb' with
      | false=>
       go_wp2_with fail
       go_roundw
       case rel=>exact ⟨b+1,p,by omega,by go_num,zI (by have:=hp.out;show _<=_;omega),hJ,hP,hCp⟩
       case measure=>(simp[intOf]<;>omega)
      | true=>
       go_wp2_with (at_builtin;refine wpList_append_own _ rfl (.tmp 48) (.tmp 52) 200 rfl w2.heap.size 62 i _ 2 16 Tryz.underlying200 hi hz0 hz1 hz2 rfl (by omega) u5 p.length (p.flatMap soC) rfl (by exact hP.out.alloc _) ⟨wp.heap.size,0,none⟩ 1 1 [.int .i64 a,.int .i64 b] rfl rfl (by exact all_new (Blk.new wp 62 #[.int .i64 a,.int .i64 b])) (by intro u hu;simp at hu;rcases hu with rfl | rfl<;>rfl) (by unfold maxLen;omega) (by omega) (by have:=hCp.out.size;simp;omega) ?_;intro v' w3 hown3 hg3 hat3;have HO3:=zI hown3;have HC3:=zI (app_ca hP.out hCp.out _ hg3);clear hown3 hg3 hat3)
       go_roundw
       case rel=>exact ⟨b+1,p++[((a:Int),(b:Int))],by omega,by go_num,zI (by have:=hp.out;show _<=_;rw[List.length_append];simp;omega),zI (by intro z hz;rcases List.mem_append.1 hz with hz | hz;exact hJ.out z hz;rw[List.mem_singleton.1 hz];exact ⟨⟨by omega,by show (a:Int)<=15;omega⟩,by show (0:Int)<=b;omega,by show (b:Int)<=15;omega⟩),zI (by rw[List.length_append,List.flatMap_append];exact HO3.out),HC3⟩
       case measure=>(simp[intOf]<;>omega)
     ·obtain rfl:b=K+1:=by omega
      have db:decide (((K:Int)+1)<=(K:Int))=false:=by rw[dF];omega
      have db2:decide (((K+1:Nat):Int)<=(K:Int))=false:=by rw[dF];omega
      have dbN:decide (K+1<=K)=false:=by rw[dF];omega
      have hp2:Hid (p.length<=(a+1) * (K+1)):=by show _<=_;rw[hmul.out];exact hp.out
      go_wp2_with (first | (go_at_call 107;refine (HC3'.out _).mono ?_;rintro e w' ⟨rfl,rfl⟩))
      go_roundw
      case rel=>exact ⟨a+1,p,by omega,by go_num,hp2,hJ,hP,hCp⟩
      case measure=>(simp[intOf]<;>omega)
   ·obtain rfl:a=K+1:=by omega
    have db:decide (((K:Int)+1)<=(K:Int))=false:=by rw[dF];omega
    have db2:decide (((K+1:Nat):Int)<=(K:Int))=false:=by rw[dF];omega
    have dbN:decide (K+1<=K)=false:=by rw[dF];omega
    go_wp2_with (first | (go_at_call 107;refine (HC3'.out _).mono ?_;rintro e w' ⟨rfl,rfl⟩))
    go_ret;exact ⟨⟨_,rfl,q,hq.out,hI.out,own_less hO.out hC2'.out.size⟩,Ct hC2'.out hCr.out⟩
 | false=>
  go_wp2_with (first | (go_at_call 126;refine (HC1.out _).mono ?_;rintro e w' ⟨rfl,rfl⟩) | (go_at_call 107;refine (HC2.out _).mono ?_;rintro e w' ⟨rfl,rfl⟩))
  go_at_call 127
  refine (HT.out w n (by omega)).mono ?_;rintro e w2 ⟨⟨v2,rfl,l2,hl2,hO2⟩,hC2⟩;obtain ⟨A2,c2,rfl,-,-⟩:=own_slice hO2;have HR2:=zI (own_rdN hO2);have hC:=zI hC2;have hC2':=zI hC2;clear hO2 hC2 qn;go_wp2_with fail
  go_loopw [8,5,9] (fun x v _ wr=>∃ (a:Nat) (q:List (Int × Int)),a<=K+1/\x=.int .i64 a/\Hid (q.length<=a * (K+1))/\Hid (∀ x ∈ q,(0<=x.1/\x.1<=15)/\0<=x.2/\x.2<=15)/\Hid (wr.ownsRow w2.heap.size 62 2 v q.length (q.flatMap soC))/\Hid (Chg (fun _=>False) w2 wr)) (fun x _ _ _=>K+1 - (intOf x).toNat)
  case atStart=>exact ⟨0,[],Nat.zero_le _,rfl,Nat.zero_le _,zI (by simp),zI (World.ownsRow_nil _ _ _ _),Chg.refl _ _⟩
  case round=>
   obtain ⟨a,q,ha,rfl,hq,hI,hO,hCr⟩:=hrel;by_cases hlt:a<=K
   ·have da:decide ((a:Int)<=(K:Int))=true:=by rw[dT];omega
    have daN:decide (a<=K)=true:=by rw[dT];omega
    go_wp2_with (go_at_call 107;refine (HC3'.out _).mono ?_;rintro e w' ⟨rfl,rfl⟩)
    go_loopw [9,5] (fun x v wt=>∃ (b:Nat) (p:List (Int × Int)),b<=K+1/\x=.int .i64 b/\Hid (p.length<=a * (K+1)+b)/\Hid (∀ x ∈ p,(0<=x.1/\x.1<=15)/\0<=x.2/\x.2<=15)/\Hid (wt.ownsRow w2.heap.size 62 2 v p.length (p.flatMap soC))/\Hid (Chg (fun _=>False) w2 wt)) (fun x _ _=>K+1 - (intOf x).toNat)
    case atStart=>exact ⟨0,q,Nat.zero_le _,rfl,zI hq.out,hI,hO,hCr⟩
    case round=>
     rename World=>wp
     obtain ⟨b,p,hb,rfl,hp,hJ,hP,hCp⟩:=hrel;by_cases hlb:b<=K
     ·have db:decide ((b:Int)<=(K:Int))=true:=by rw[dT];omega
      have dbN:decide (b<=K)=true:=by rw[dT];omega
      have hpl:p.length<=1000:=by have:=hp.out;have:=hbig.out a (by omega);omega
      have hCw:Hid (Chg (fun _=>False) w wp):=Ct hC2'.out hCp.out;have HH2:=zI (HH.out wp A2 c2 l2 a b (HR2.out.later hCp.out (fun _ h=>h.elim)) (by omega));go_wp2_with (first | (go_at_call 107;refine (HC3'.out _).mono ?_;rintro e w' ⟨rfl,rfl⟩))
      go_at_call 128
      refine HH2.out.mono ?_;rintro e w' ⟨⟨hb',rfl⟩,rfl⟩;cases hb' with
      | false=>
       go_wp2_with fail
       go_roundw
       case rel=>exact ⟨b+1,p,by omega,by go_num,zI (by have:=hp.out;show _<=_;omega),hJ,hP,hCp⟩
       case measure=>(simp[intOf]<;>omega)
      | true=>
       go_wp2_with (at_builtin;refine wpList_append_own _ rfl (.tmp 48) (.tmp 52) 200 rfl w2.heap.size 62 i _ 2 16 Tryz.underlying200 hi hz0 hz1 hz2 rfl (by omega) u5 p.length (p.flatMap soC) rfl (by exact hP.out.alloc _) ⟨wp.heap.size,0,none⟩ 1 1 [.int .i64 a,.int .i64 b] rfl rfl (by exact all_new (Blk.new wp 62 #[.int .i64 a,.int .i64 b])) (by intro u hu;simp at hu;rcases hu with rfl | rfl<;>rfl) (by unfold maxLen;omega) (by omega) (by have:=hCp.out.size;simp;omega) ?_;intro v' w3 hown3 hg3 hat3;have HO3:=zI hown3;have HC3:=zI (app_ca hP.out hCp.out _ hg3);clear hown3 hg3 hat3)
       go_roundw
       case rel=>exact ⟨b+1,p++[((a:Int),(b:Int))],by omega,by go_num,zI (by have:=hp.out;show _<=_;rw[List.length_append];simp;omega),zI (by intro z hz;rcases List.mem_append.1 hz with hz | hz;exact hJ.out z hz;rw[List.mem_singleton.1 hz];exact ⟨⟨by omega,by show (a:Int)<=15;omega⟩,by show (0:Int)<=b;omega,by show (b:Int)<=15;omega⟩),zI (by rw[List.length_append,List.flatMap_append];exact HO3.out),HC3⟩
       case measure=>(simp[intOf]<;>omega)
     ·obtain rfl:b=K+1:=by omega
      have db:decide (((K:Int)+1)<=(K:Int))=false:=by rw[dF];omega
      have db2:decide (((K+1:Nat):Int)<=(K:Int))=false:=by rw[dF];omega
      have dbN:decide (K+1<=K)=false:=by rw[dF];omega
      have hp2:Hid (p.length<=(a+1) * (K+1)):=by show _<=_;rw[hmul.out];exact hp.out
      go_wp2_with (first | (go_at_call 107;refine (HC3'.out _).mono ?_;rintro e w' ⟨rfl,rfl⟩))
      go_roundw
      case rel=>exact ⟨a+1,p,by omega,by go_num,hp2,hJ,hP,hCp⟩
      case measure=>(simp[intOf]<;>omega)
   ·obtain rfl:a=K+1:=by omega
    have db:decide (((K:Int)+1)<=(K:Int))=false:=by rw[dF];omega
    have db2:decide (((K+1:Nat):Int)<=(K:Int))=false:=by rw[dF];omega
    have dbN:decide (K+1<=K)=false:=by rw[dF];omega
    go_wp2_with (first | (go_at_call 107;refine (HC3'.out _).mono ?_;rintro e w' ⟨rfl,rfl⟩))
    go_ret;exact ⟨⟨_,rfl,q,hq.out,hI.out,own_less hO.out hC2'.out.size⟩,Ct hC2'.out hCr.out⟩
structure ZT (w:World) (z:ZC):Prop where
 ok:ZOK w z
 c:∀ ad,z.cA=some ad->0 < z.cl.length->∃ cur,Blk w ad.block 194 cur
 g:∀ ad,z.gA=some ad->0 < z.gl.length->∃ cur,Blk w ad.block 3 cur
 cap:z.cl.length<=z.cC/\z.cC<=maxLen/\z.gl.length<=z.gC/\z.gC<=maxLen
theorem ZT.later {w w':World} {z:ZC} (h:ZT w z) (hc:Chg (fun _=>False) w w'):ZT w' z:=
 ⟨h.ok.later hc,fun ad a b=>let ⟨cur,hb⟩:=h.c ad a b;⟨cur,hb.chg hc (fun h=>h)⟩,fun ad a b=>let ⟨cur,hb⟩:=h.g ad a b;⟨cur,hb.chg hc (fun h=>h)⟩,h.cap⟩
theorem blk_ty {w:World} {g:Nat} {t t':TypeId} {c c':Array Value} (h:Blk w g t c) (h':Blk w g t' c'):t=t':=by
 unfold Blk at h h';rw[h] at h';injection h' with h';injection h' with _ h' _
theorem ZT.far {S:Nat->Prop} {w w':World} {z:ZC} (h:ZT w z) (hc:Chg S w w') (hS:∀ k,S k->k < w.heap.size->∃ t cur,Blk w k t cur/\t ≠ 194/\t ≠ 3):ZT w' z:=by
 have kc:∀ ad,z.cA=some ad->0 < (z.cl.flatMap soC).length->¬ S ad.block:=fun ad a b hs=>by
  obtain ⟨cur,hb⟩:=h.c ad a (by rw[soC_len] at b;omega);obtain ⟨t,cur',hb',h1,_⟩:=hS _ hs hb.lt;exact h1 (blk_ty hb' hb)
 have kg:∀ ad,z.gA=some ad->0 < (intsV z.gl).length->¬ S ad.block:=fun ad a b hs=>by
  obtain ⟨cur,hb⟩:=h.g ad a (by rw[intsV_len] at b;omega);obtain ⟨t,cur',hb',_,h1⟩:=hS _ hs hb.lt;exact h1 (blk_ty hb' hb)
 exact ⟨⟨h.ok.cls.far hc (Nat.le_refl _) kc,h.ok.gap.far hc (Nat.le_refl _) kg,h.ok.few,h.ok.cin,h.ok.gin⟩,fun ad a b=>let ⟨cur,hb⟩:=h.c ad a b;⟨cur,hb.chg hc (kc ad a (by rw[soC_len];omega))⟩,fun ad a b=>let ⟨cur,hb⟩:=h.g ad a b;⟨cur,hb.chg hc (kg ad a (by rw[intsV_len];omega))⟩,h.cap⟩
structure ZB (w:World) (B zb:Nat) (cl:List (Int × Int)) (gl:List Int) (vC vG:Value):Prop where
 blk:Blk w zb 88 #[vC,vG]
 oc:w.ownsRow B 194 2 vC cl.length (cl.flatMap soC)
 og:w.ownsRow B 3 1 vG gl.length (intsV gl)
 lt:zb < B
section
variable {w w':World} {B zb:Nat} {cl cl':List (Int × Int)} {gl gl':List Int} {vC vG v':Value}
theorem ZB.start {w:World} {B zb:Nat} (hb:Blk w zb 88 #[.slice none 0 0,.slice none 0 0]) (hl:zb < B):ZB w B zb [] [] (.slice none 0 0) (.slice none 0 0):=⟨hb,World.ownsRow_nil _ _ _ _,World.ownsRow_nil _ _ _ _,hl⟩
theorem ZB.chg (h:ZB w B zb cl gl vC vG) (hc:Chg (fun _=>False) w w'):ZB w' B zb cl gl vC vG:=⟨h.blk.chg hc (fun h=>h),own_chg h.oc hc (fun _ _ h=>h),own_chg h.og hc (fun _ _ h=>h),h.lt⟩
theorem ZB.cells (h:ZB w B zb cl gl vC vG):w.cell? ⟨zb,0,none⟩=some vC/\w.cell? ⟨zb,1,none⟩=some vG/\∀ i,w.frozen? ⟨zb,i,none⟩=false:=⟨by rw[h.blk.cell];rfl,by rw[h.blk.cell];rfl,h.blk.frozen⟩
theorem ZB.nC (h:ZB w B zb cl gl vC vG):vC.ownBlock ≠ some zb:=fun e=>by have:=(h.oc.lt zb e).1;have:=h.lt;omega
theorem ZB.nG (h:ZB w B zb cl gl vC vG):vG.ownBlock ≠ some zb:=fun e=>by have:=(h.og.lt zb e).1;have:=h.lt;omega
theorem ZB.setC (h:ZB w B zb cl gl vC vG) (ho:w'.ownsRow B 194 2 v' cl'.length (cl'.flatMap soC)) (hg:w.grownBy w' vC.ownBlock):ZB (w'.setCell ⟨zb,0,none⟩ v') B zb cl' gl v' vG:=by
 have hl:=h.lt;refine ⟨?_,own_set ho (fun e=>by have:=(ho.lt zb e).1;omega) _,own_set (own_grown h.og hg (fun g e e'=>own_own_ne h.oc h.og (by decide) g e' e)) (fun e=>h.nG e) _,hl⟩;have:=(h.blk.grown hg (fun e=>h.nC e.symm)).set 0 v';simpa using this
theorem ZB.setG (h:ZB w B zb cl gl vC vG) (ho:w'.ownsRow B 3 1 v' gl'.length (intsV gl')) (hg:w.grownBy w' vG.ownBlock):ZB (w'.setCell ⟨zb,1,none⟩ v') B zb cl gl' vC v':=by
 have hl:=h.lt;refine ⟨?_,own_set (own_grown h.oc hg (fun g e e'=>own_own_ne h.og h.oc (by decide) g e' e)) (fun e=>h.nC e) _,own_set ho (fun e=>by have:=(ho.lt zb e).1;omega) _,hl⟩;have:=(h.blk.grown hg (fun e=>h.nG e.symm)).set 1 v';simpa using this
theorem ZB.chgC {w0:World} {Z:Nat->Prop} (h:ZB w B zb cl gl vC vG) (hC:Chg Z w0 w) (hB:w0.heap.size<=B) (hZ:Z zb\/w0.heap.size<=zb) (hg:w.grownBy w' vC.ownBlock) (u:Value):Chg Z w0 (w'.setCell ⟨zb,0,none⟩ u):=
 (hC.grown hg (fun k hk=>.inr (Nat.le_trans hB (h.oc.lt k hk).1))).setCell hZ u
theorem ZB.chgG {w0:World} {Z:Nat->Prop} (h:ZB w B zb cl gl vC vG) (hC:Chg Z w0 w) (hB:w0.heap.size<=B) (hZ:Z zb\/w0.heap.size<=zb) (hg:w.grownBy w' vG.ownBlock) (u:Value):Chg Z w0 (w'.setCell ⟨zb,1,none⟩ u):=
 (hC.grown hg (fun k hk=>.inr (Nat.le_trans hB (h.og.lt k hk).1))).setCell hZ u
theorem ZB.zt (h:ZB w B zb cl gl vC vG) (hf:cl.length<=100000/\gl.length<=100000) (hc:∀ x ∈ cl,inR x.1/\inR x.2) (hg:∀ x ∈ gl,inR x):∃ z:ZC,zA z=#[vC,vG]/\z.cl=cl/\z.gl=gl/\ZT w z:=by
 obtain ⟨A,c,rfl,h1,h2⟩:=own_slice h.oc;obtain ⟨A',c',rfl,h3,h4⟩:=own_slice h.og;refine ⟨⟨A,cl,c,A',gl,c'⟩,rfl,rfl,rfl,⟨own_rdN h.oc,own_rdN h.og,hf,hc,hg⟩,fun ad a _=>?_,fun ad a _=>?_,⟨h1,h2,h3,h4⟩⟩
 ·obtain rfl:A=some ad:=a;rcases h.oc.2 with ⟨e,_⟩ | ⟨g,cap,cur,e,_,hh,_⟩
  ·cases e
  ·injection e with e _ _;injection e with e;subst e;exact ⟨cur,hh⟩
 ·obtain rfl:A'=some ad:=a;rcases h.og.2 with ⟨e,_⟩ | ⟨g,cap,cur,e,_,hh,_⟩
  ·cases e
  ·injection e with e _ _;injection e with e;subst e;exact ⟨cur,hh⟩
end
def ZoR (n k:Nat) (v:Value) (w':World):Prop:=∃ z:ZC,v=.agg (zA z)/\ZT w' z/\z.cl.length<=n/\z.gl.length<=k
theorem ZoR.later {n k:Nat} {v:Value} {w w':World} (h:ZoR n k v w) (hc:Chg (fun _=>False) w w'):ZoR n k v w':=let ⟨z,h1,h2,h3⟩:=h;⟨z,h1,h2.later hc,h3⟩
theorem run_lit1 {P:Program} {w:World} {a:Act} {t e:TypeId} {x:Nat} {n:Int} (ht:P.underlying t=some (.slice e)) {i:TypeInfo} (hi:P.info? e=some i) (hs:i.size=1) (hz:i.zero=some (.int .i64 0)) (hx:(a.tmps[x]?).getD undef=.int .i64 n):∀ o:Oper,o.op=.buildSlice t 1 #[(0,.tmp x)]->(execOp a.eval o).run P w=.ok (.value (.slice (some ⟨w.heap.size,0,none⟩) 1 1)) (w.alloc (.cells #[.int .i64 n] e)):=by
 intro o h;simp[execOp,h,go_sem,Result.andThen,run_underlying ht,hi,sizeOf,typeInfo,hs,hz,hx,zeroValue]
end
end Go.Proofs.YthohgagkjnbkbaaGreat
