/- FragTrue, part 11: FrEg FrEu FrAll FrNot FrPut. Each theorem says what a function does, or a plain fact, under its own premises alone. -/
import Derived.Test.YthohgagkjnbkbaaGreatP10
set_option maxRecDepth 100000
set_option maxHeartbeats 16000000
namespace Go.Proofs.YthohgagkjnbkbaaGreat
section
open Go.RowKit
theorem ex_blk (w0:World) (R:List RowI) (N:Option Addr) (d:Nat) (hN:NxOK w0 N R) (w:World) (hC:Chg (fun _=>False) w0 w) (g n:Nat) (hn:n=R.length) (h:Nat->Bool) (hb:Blk w g 4 (bA h n)):
  Calls Tryz.prog 34 #[.slice N n d,.slice (some ⟨g,0,none⟩) n n] w fun e w'=>BoR w (upTo (exB R (upTo h n)) n) e w':=by
 have:=ex_any w R (upTo h n) N (some ⟨g,0,none⟩) d n (hN.later hC) (bA_rd hb);rw[upTo_len,<-hn] at this;exact this
theorem eg_any (w:World) (R:List RowI) (a:List Bool) (N A:Option Addr) (d c:Nat) (hN:NxOK w N R) (hR:Rd w w.heap.size A (boolsV a)):Calls Tryz.prog 12 #[.slice N R.length d,.slice A a.length c] w fun e w'=>BoR w (egL R a) e w':=by
 have hn:=hN.few;have HI:=zI (fun (w':World) (h:Chg (fun _=>False) w w') (x:Int)=>is_any w' a A c x (hR.later h (fun _ h=>h.elim)));have hmk:=run_make_row' (P:=Tryz.prog) 47 4 (.bool false) 1 Tryz.underlying47 bool_info rfl .i64 .i64 R.length (by omega) (by omega);rw[bA_made] at hmk;unfold egL;obtain ⟨n,hnn⟩:∃ n,n=R.length:=⟨_,rfl⟩;rw[<-hnn] at hmk |-;rw[<-hnn] at hn;have HE:=zI (fun (w':World) (h:Chg (fun _=>False) w w') (g:Nat) (f:Nat->Bool) (hb:Blk w' g 4 (bA f n))=>ex_blk w R N d hN w' h g n hnn f hb);have hL:Hid (Looks (egStep R) n):=by rw[hnn];exact eg_looks R
 obtain ⟨s,hs⟩:∃ s,s=egStep R:=⟨_,rfl⟩;rw[<-hs] at hL |-;replace hs:=zI (show ∀ h i,s h i=(h i && exB R (upTo h n) i) by rw[hs,hnn];intro h i;rfl);obtain ⟨h0,hh0⟩:∃ h0:Nat->Bool,h0=fun (i:Nat)=>isB a (i:Int):=⟨_,rfl⟩
 rw[<-hh0];replace hh0:=zI (show ∀ i:Nat,h0 i=isB a i by rw[hh0];intro i;rfl);replace hnn:=zI hnn;clear hR hN;go_enter Tryz.func12,Tryz.ntmps12;go_wp2_with fail
 clear hmk;obtain ⟨w1,hw1⟩:∃ w1,w1=w.alloc (.cells (bA (fun _=>false) n) 4):=⟨_,rfl⟩;obtain ⟨g,hg⟩:∃ g,g=w.heap.size:=⟨_,rfl⟩;have hB1:Hid (Blk w1 g 4 (bA (mix (fun _=>false) h0 0) n)):=by rw[mix_zero,hw1,hg];exact Blk.new w 4 _
 have hC1:Hid (Chg (fun _=>False) w w1):=by rw[hw1];exact (Chg.refl _ w).alloc _
 rw[<-hw1,<-hg];replace hg:=zI hg;clear hw1;go_loopw [6] (fun x wr=>∃ j:Nat,j<=n/\x=.int .i64 j/\Hid (Blk wr g 4 (bA (mix (fun _=>false) h0 j) n))/\Hid (Chg (fun _=>False) w wr)) (fun x _=>n - (intOf x).toNat)
 case atStart=>exact ⟨0,Nat.zero_le _,rfl,hB1,hC1⟩
 case round=>
  obtain ⟨j,hj,rfl,hO,hC⟩:=hrel;by_cases hlt:j < n
  ·have HIx:=zI (HI.out wr hC.out j);rw[<-hh0.out j] at HIx;have hck:=bA_cell hO.out hlt;have hfr:=hO.out.frozen j;have hO3:=zI (hO.out.set j (.bool (h0 j)));rw[bA_set,mix_upd] at hO3;have hC3:=zI (Chg.setCell hC.out (p:=⟨g,j,none⟩) (.inr (by rw[hg.out];exact Nat.le_refl _)) (.bool (h0 j)));go_wp2_with (go_at_call 35;refine HIx.out.mono ?_;rintro e w' ⟨rfl,rfl⟩)
   go_roundw
   case rel=>exact ⟨j+1,by omega,by go_num,hO3,hC3⟩
   case measure=>(simp[intOf]<;>omega)
  ·obtain rfl:j=n:=by omega
   have hO4:Hid (Blk wr g 4 (bA (iter s 0 h0) j)):=by
    show Blk _ _ _ _;have:=hO.out;unfold bA at this |-;rw[mix_all] at this;exact this
   clear hO hB1 hC1 HI hj hlt;go_wp2_with fail
   go_loopw [7,8,9,10] (fun x _ _ _ wt=>∃ m:Nat,m<=j+1/\x=.int .i64 m/\Hid (Blk wt g 4 (bA (iter s m h0) j))/\Hid (Chg (fun _=>False) w wt)) (fun x _ _ _ _=>j+1 - (intOf x).toNat)
   case atStart=>exact ⟨0,Nat.zero_le _,rfl,hO4,hC⟩
   case round=>
    obtain ⟨m,hm,rfl,hO5,hC5⟩:=hrel;by_cases hle:m<=j
    ·have hd:decide ((m:Int)<=(j:Int))=true:=by rw[dT];omega
     have HE5:=zI (HE.out wr hC5.out g _ hO5.out);obtain ⟨h,hh⟩:∃ h,h=iter s m h0:=⟨_,rfl⟩;rw[<-hh] at hO5 HE5;replace hh:=zI hh;obtain ⟨xf,hxf⟩:∃ xf,xf=exB R (upTo h j):=⟨_,rfl⟩;rw[<-hxf] at HE5;have hst:Hid (∀ i,s h i=(h i && xf i)):=by intro i;rw[hs.out,hxf]
     clear hxf;go_wp2_with (go_at_call 34;refine HE5.out.mono ?_;rintro e w2 ⟨Ax,cx,rfl,hx1,hx2,hxR,hxC,hxF⟩;have HX:=zI hxR;have HC2:=zI (Ct hC5.out hxC);have HB2:=zI (hO5.out.chg hxC (fun h=>h));have HF:Hid (∀ ad,Ax=some ad->g ≠ ad.block):=(fun ad he e=>by have:=hxF ad he;have:=hO5.out.lt;omega);clear hx1 hx2 hxR hxC hxF;rw[upTo_len])
     go_loopw [10,9] (fun y t wk=>∃ k:Nat,k<=j/\y=.int .i64 k/\t=.bool (same (fun i=>xf i || !h i) k)/\Hid (Blk wk g 4 (bA (mix h (s h) k) j))/\Hid (Rd wk w2.heap.size Ax (boolsV (upTo xf j)))/\Hid (Chg (fun _=>False) w wk)) (fun y _ _=>j - (intOf y).toNat)
     case atStart=>exact ⟨0,Nat.zero_le _,rfl,rfl,by rw[mix_zero];exact HB2,HX,HC2⟩
     case round=>
      obtain ⟨k,hk,rfl,rfl,hO6,hX6,hC6⟩:=hrel;by_cases hkl:k < j
      ·obtain ⟨b1,o1,hA1,_,hc1⟩:=bool_at hX6.out (i:=k) (x:=xf k) (by rw[upTo_get];simp[hkl]);have hck:=bA_cell hO6.out hkl;rw[mix_at] at hck;have hfr:=hO6.out.frozen k;have hO7:=zI (hO6.out.set k (.bool (s h k)));rw[bA_set,mix_upd] at hO7;have hC7:=zI (Chg.setCell hC6.out (p:=⟨g,k,none⟩) (.inr (by rw[hg.out];exact Nat.le_refl _)) (.bool (s h k)));have hX7:=zI (rd_far hX6.out (p:=⟨g,k,none⟩) HF.out (.bool (s h k)));rw[hst.out k] at hO7 hC7 hX7;have hsm:=same_succ (fun i=>xf i || !h i) k;obtain ⟨sb,hsb⟩:∃ sb,sb=same (fun i=>xf i || !h i) k:=⟨_,rfl⟩;rw[<-hsb] at hsm |-;clear hsb;obtain ⟨xb,hxb⟩:∃ xb,xb=xf k:=⟨_,rfl⟩;obtain ⟨yb,hyb⟩:∃ yb,yb=h k:=⟨_,rfl⟩;simp only[<-hxb,<-hyb] at hsm hO7 hC7 hX7 hck hc1;clear hxb hyb;subst hA1;cases sb<;>cases xb<;>cases yb;all_goals (simp at hsm;replace hsm:=zI hsm;simp only[Bool.and_true,Bool.and_false] at hO7 hC7 hX7)
       all_goals go_wp2_with fail
       all_goals go_roundw
       all_goals first | ((simp[intOf]<;>omega);done) | exact ⟨k+1,by omega,by go_num,by rw[hsm.out],hO7,hX7,hC7⟩
      ·obtain rfl:k=j:=by omega
       have hO8:Hid (Blk wr g 4 (bA (iter s (m+1) h0) k)):=by
        show Blk _ _ _ _;have:=hO6.out;unfold bA at this |-;rw[mix_all,hh.out] at this;exact this
       obtain ⟨sb,hsb⟩:∃ sb,sb=same (fun i=>xf i || !h i) k:=⟨_,rfl⟩;rw[<-hsb];cases sb with
       | false=>
        clear hsb;go_wp2_with fail
        go_roundw
        case rel=>exact ⟨m+1,by omega,by go_num,hO8,hC6⟩
        case measure=>(simp[intOf]<;>omega)
       | true=>
        have hfix:Hid (upTo (iter s (k+1) h0) k=upTo (iter s (m+1) h0) k):=by
         have hf:∀ i,i < k->s (iter s m h0) i=iter s m h0 i:=fun i hi=>by
          have:=same_all hsb.symm i hi;rw[<-hh.out,hst.out];revert this
          cases xf i<;>cases h i<;>simp
         have h1:=iter_stays hL.out hf (k+1 - m);have h2:=iter_stays hL.out hf 1;rw[show m+(k+1 - m)=k+1 by omega] at h1;exact h1.trans h2.symm
        clear hsb;go_wp2_with fail
        go_ret;rw[hfix.out];exact bA_bor hO8.out hn hC6.out (by rw[hg.out];exact Nat.le_refl _)
    ·obtain rfl:m=j+1:=by omega
     have hd:decide (((j+1:Nat):Int)<=(j:Int))=false:=by rw[dF];omega
     have hd2:decide (((j:Int)+1)<=(j:Int))=false:=by rw[dF];omega
     go_wp2
     go_ret;exact bA_bor hO5.out hn hC5.out (by rw[hg.out];exact Nat.le_refl _)
theorem eu_any (w:World) (R:List RowI) (a b:List Bool) (N A B:Option Addr) (d c e0:Nat) (hN:NxOK w N R) (hR:Rd w w.heap.size A (boolsV a)) (hS:Rd w w.heap.size B (boolsV b)):Calls Tryz.prog 11 #[.slice N R.length d,.slice A a.length c,.slice B b.length e0] w fun e w'=>BoR w (euL R a b) e w':=by
 have hn:=hN.few;have HI:=zI (fun (w':World) (h:Chg (fun _=>False) w w') (x:Int)=>is_any w' a A c x (hR.later h (fun _ h=>h.elim)));have HJ:=zI (fun (w':World) (h:Chg (fun _=>False) w w') (x:Int)=>is_any w' b B e0 x (hS.later h (fun _ h=>h.elim)));have hmk:=run_make_row' (P:=Tryz.prog) 47 4 (.bool false) 1 Tryz.underlying47 bool_info rfl .i64 .i64 R.length (by omega) (by omega);rw[bA_made] at hmk;unfold euL;obtain ⟨n,hnn⟩:∃ n,n=R.length:=⟨_,rfl⟩;rw[<-hnn] at hmk |-;rw[<-hnn] at hn;have HE:=zI (fun (w':World) (h:Chg (fun _=>False) w w') (g:Nat) (f:Nat->Bool) (hb:Blk w' g 4 (bA f n))=>ex_blk w R N d hN w' h g n hnn f hb);have hL:Hid (Looks (euStep R a b) n):=by rw[hnn];exact eu_looks R a b
 obtain ⟨s,hs⟩:∃ s,s=euStep R a b:=⟨_,rfl⟩;rw[<-hs] at hL |-;replace hs:=zI (show ∀ h i,s h i=(isB b i || (isB a i && exB R (upTo h n) i)) by rw[hs,hnn];intro h i;rfl);obtain ⟨h0,hh0⟩:∃ h0:Nat->Bool,h0=fun _=>false:=⟨_,rfl⟩
 rw[<-hh0] at hmk |-;clear hh0;replace hnn:=zI hnn;clear hR hN hS;go_enter Tryz.func11,Tryz.ntmps11;go_wp2_with fail
 clear hmk;obtain ⟨w1,hw1⟩:∃ w1,w1=w.alloc (.cells (bA h0 n) 4):=⟨_,rfl⟩;obtain ⟨g,hg⟩:∃ g,g=w.heap.size:=⟨_,rfl⟩;have hB1:Hid (Blk w1 g 4 (bA (iter s 0 h0) n)):=by rw[hw1,hg];exact Blk.new w 4 _
 have hC1:Hid (Chg (fun _=>False) w w1):=by rw[hw1];exact (Chg.refl _ w).alloc _
 rw[<-hw1,<-hg];replace hg:=zI hg;clear hw1;go_loopw [8,9,10,11,12] (fun x _ _ _ _ wt=>∃ m:Nat,m<=n+1/\x=.int .i64 m/\Hid (Blk wt g 4 (bA (iter s m h0) n))/\Hid (Chg (fun _=>False) w wt)) (fun x _ _ _ _ _=>n+1 - (intOf x).toNat)
 case atStart=>exact ⟨0,Nat.zero_le _,rfl,hB1,hC1⟩
 case round=>
  obtain ⟨m,hm,rfl,hO5,hC5⟩:=hrel;by_cases hle:m<=n
  ·have hd:decide ((m:Int)<=(n:Int))=true:=by rw[dT];omega
   have HE5:=zI (HE.out wr hC5.out g _ hO5.out);obtain ⟨h,hh⟩:∃ h,h=iter s m h0:=⟨_,rfl⟩;rw[<-hh] at hO5 HE5;replace hh:=zI hh;obtain ⟨xf,hxf⟩:∃ xf,xf=exB R (upTo h n):=⟨_,rfl⟩;rw[<-hxf] at HE5;have hst:Hid (∀ i,s h i=(isB b i || (isB a i && xf i))):=by intro i;rw[hs.out,hxf]
   clear hxf;go_wp2_with (go_at_call 34;refine HE5.out.mono ?_;rintro e w2 ⟨Ax,cx,rfl,hx1,hx2,hxR,hxC,hxF⟩;have HX:=zI hxR;have HC2:=zI (Ct hC5.out hxC);have HB2:=zI (hO5.out.chg hxC (fun h=>h));have HF:Hid (∀ ad,Ax=some ad->g ≠ ad.block):=(fun ad he e=>by have:=hxF ad he;have:=hO5.out.lt;omega);clear hx1 hx2 hxR hxC hxF;rw[upTo_len])
   go_loopw [11,10,12] (fun y t _ wk=>∃ k:Nat,k<=n/\y=.int .i64 k/\t=.bool (same (fun i=>s h i ==h i) k)/\Hid (Blk wk g 4 (bA (mix h (s h) k) n))/\Hid (Rd wk w2.heap.size Ax (boolsV (upTo xf n)))/\Hid (Chg (fun _=>False) w wk)) (fun y _ _ _=>n - (intOf y).toNat)
   case atStart=>exact ⟨0,Nat.zero_le _,rfl,rfl,by rw[mix_zero];exact HB2,HX,HC2⟩
   case round=>
    obtain ⟨k,hk,rfl,rfl,hO6,hX6,hC6⟩:=hrel;by_cases hkl:k < n
    ·obtain ⟨b1,o1,hA1,_,hc1⟩:=bool_at hX6.out (i:=k) (x:=xf k) (by rw[upTo_get];simp[hkl]);have hck:=bA_cell hO6.out hkl;rw[mix_at] at hck;have hfr:=hO6.out.frozen k;have hO7:=zI (hO6.out.set k (.bool (s h k)));rw[bA_set,mix_upd] at hO7;have hC7:=zI (Chg.setCell hC6.out (p:=⟨g,k,none⟩) (.inr (by rw[hg.out];exact Nat.le_refl _)) (.bool (s h k)));have hX7:=zI (rd_far hX6.out (p:=⟨g,k,none⟩) HF.out (.bool (s h k)));have HIk:=zI (HI.out _ hC6.out k);have HJk:=zI (HJ.out _ hC6.out k);have hsm:=same_succ (fun i=>s h i ==h i) k;obtain ⟨sb,hsb⟩:∃ sb,sb=same (fun i=>s h i ==h i) k:=⟨_,rfl⟩;rw[<-hsb] at hsm |-;clear hsb;have hsk:=hst.out k;obtain ⟨zb,hzb⟩:∃ zb,zb=s h k:=⟨_,rfl⟩;obtain ⟨xb,hxb⟩:∃ xb,xb=xf k:=⟨_,rfl⟩;obtain ⟨yb,hyb⟩:∃ yb,yb=h k:=⟨_,rfl⟩;obtain ⟨pb,hpb⟩:∃ pb,pb=isB a k:=⟨_,rfl⟩;obtain ⟨qb,hqb⟩:∃ qb,qb=isB b k:=⟨_,rfl⟩;simp only[<-hxb,<-hyb,<-hzb,<-hpb,<-hqb] at hsm hO7 hC7 hX7 hck hc1 hsk HIk HJk;clear hxb hyb hzb hpb hqb;subst hA1;cases qb
     ·cases pb
      ·simp at hsk;subst hsk;cases sb<;>cases yb;all_goals (simp at hsm;replace hsm:=zI hsm)
       all_goals go_wp2_with (go_at_call 35;first | (refine HJk.out.mono ?_;rintro e w' ⟨rfl,rfl⟩;clear HJk) | (refine HIk.out.mono ?_;rintro e w' ⟨rfl,rfl⟩))
       all_goals go_roundw
       all_goals first | ((simp[intOf]<;>omega);done) | exact ⟨k+1,by omega,by go_num,by rw[hsm.out],hO7,hX7,hC7⟩
      ·simp at hsk;subst hsk;cases sb<;>cases yb<;>cases zb;all_goals (simp at hsm;replace hsm:=zI hsm)
       all_goals go_wp2_with (go_at_call 35;first | (refine HJk.out.mono ?_;rintro e w' ⟨rfl,rfl⟩;clear HJk) | (refine HIk.out.mono ?_;rintro e w' ⟨rfl,rfl⟩))
       all_goals go_roundw
       all_goals first | ((simp[intOf]<;>omega);done) | exact ⟨k+1,by omega,by go_num,by rw[hsm.out],hO7,hX7,hC7⟩
     ·simp at hsk;subst hsk;cases sb<;>cases yb;all_goals (simp at hsm;replace hsm:=zI hsm)
      all_goals go_wp2_with (go_at_call 35;refine HJk.out.mono ?_;rintro e w' ⟨rfl,rfl⟩)
      all_goals go_roundw
      all_goals first | ((simp[intOf]<;>omega);done) | exact ⟨k+1,by omega,by go_num,by rw[hsm.out],hO7,hX7,hC7⟩
    ·obtain rfl:k=n:=by omega
     have hO8:Hid (Blk wr g 4 (bA (iter s (m+1) h0) k)):=by
      show Blk _ _ _ _;have:=hO6.out;unfold bA at this |-;rw[mix_all,hh.out] at this;exact this
     obtain ⟨sb,hsb⟩:∃ sb,sb=same (fun i=>s h i ==h i) k:=⟨_,rfl⟩;rw[<-hsb];cases sb with
     | false=>
      clear hsb;go_wp2_with fail
      go_roundw
      case rel=>exact ⟨m+1,by omega,by go_num,hO8,hC6⟩
      case measure=>(simp[intOf]<;>omega)
     | true=>
      by_cases hm0:0 < m
      ·have hfix:Hid (upTo (iter s (k+1) h0) k=upTo (iter s (m+1) h0) k):=by
        have hf:∀ i,i < k->s (iter s m h0) i=iter s m h0 i:=fun i hi=>by
         have:=same_all hsb.symm i hi;rw[hh.out] at this;simpa using this
        have h1:=iter_stays hL.out hf (k+1 - m);have h2:=iter_stays hL.out hf 1;rw[show m+(k+1 - m)=k+1 by omega] at h1;exact h1.trans h2.symm
       have hd3:decide ((0:Int) < (m:Int))=true:=by rw[dT];omega
       clear hsb;go_wp2_with fail
       go_ret;rw[hfix.out];exact bA_bor hO8.out hn hC6.out (by rw[hg.out];exact Nat.le_refl _)
      ·have hd3:decide ((0:Int) < (m:Int))=false:=by rw[dF];omega
       have hd4:decide (0 < m)=false:=by rw[dF];omega
       clear hsb;go_wp2_with fail
       go_roundw
       case rel=>exact ⟨m+1,by omega,by go_num,hO8,hC6⟩
       case measure=>(simp[intOf]<;>omega)
  ·obtain rfl:m=n+1:=by omega
   have hd:decide (((n+1:Nat):Int)<=(n:Int))=false:=by rw[dF];omega
   have hd2:decide (((n:Int)+1)<=(n:Int))=false:=by rw[dF];omega
   go_wp2
   go_ret;exact bA_bor hO5.out hn hC5.out (by rw[hg.out];exact Nat.le_refl _)
theorem boolsV_set (h:Nat->Bool) (n i:Nat) (b:Bool):(boolsV (upTo h n)).set i (.bool b)=boolsV (upTo (upd h i b) n):=by
 have:=congrArg Array.toList (bA_set h n i b);simpa [bA] using this
theorem ownB_set {w:World} {base g n cap i:Nat} {h:Nat->Bool} (ho:w.ownsRow base 4 1 (.slice (some ⟨g,0,none⟩) n cap) n (boolsV (upTo h n))) (b:Bool):(w.setCell ⟨g,i,none⟩ (.bool b)).ownsRow base 4 1 (.slice (some ⟨g,0,none⟩) n cap) n (boolsV (upTo (upd h i b) n)):=by
 have:=(ho.stored i (.bool b)).1;rwa [boolsV_set] at this
theorem ownB_cell {w:World} {base g n cap i:Nat} {h:Nat->Bool} (ho:w.ownsRow base 4 1 (.slice (some ⟨g,0,none⟩) n cap) n (boolsV (upTo h n))) (hi:i < n):w.cell? ⟨g,i,none⟩=some (.bool (h i)):=by
 rw[ho.cellAt i (by omega)];simp[boolsV,upTo_get,hi]
theorem ownB_bor {w0 w:World} {base g n cap:Nat} {h:Nat->Bool} (hb:w0.heap.size<=base) (ho:w.ownsRow base 4 1 (.slice (some ⟨g,0,none⟩) n cap) n (boolsV (upTo h n))) (hc:Chg (fun _=>False) w0 w):BoR w0 (upTo h n) (.returned (.slice (some ⟨g,0,none⟩) n cap)) w:=by
 obtain ⟨A',c',e,h1,h2⟩:=own_slice ho;injection e with e1 _ e2;subst e1;subst e2;exact ⟨_,cap,by rw[upTo_len],by rw[upTo_len];exact h1,h2,own_rd ho,hc,fun ad he=>by injection he with he;subst he;exact own_base hb ho⟩
theorem upTo_self (b:List Bool):upTo (fun (i:Nat)=>isB b (i:Int)) b.length=b:=by
 apply List.ext_getElem?;intro i;rw[upTo_get];by_cases hi:i < b.length
 ·simp[isB_nat,hi,List.getD_eq_getElem?_getD]
 ·simp[hi]
theorem every_own (w0:World) (R:List RowI) (N:Option Addr) (d:Nat) (hN:NxOK w0 N R) (w:World) (hC:Chg (fun _=>False) w0 w) (base g n cap:Nat) (hn:n=R.length) (h:Nat->Bool) (hb:w.ownsRow base 4 1 (.slice (some ⟨g,0,none⟩) n cap) n (boolsV (upTo h n))):
  Calls Tryz.prog 68 #[.slice N n d,.slice (some ⟨g,0,none⟩) n cap] w fun e w'=>BoR w (upTo (everyB R (upTo h n)) n) e w':=by
 have:=every_any w R (upTo h n) N (some ⟨g,0,none⟩) d cap (hN.later hC) (own_rd hb);rw[upTo_len,<-hn] at this;exact this
theorem all_any (w:World) (R:List RowI) (a b:List Bool) (N A B:Option Addr) (d c e0:Nat) (hN:NxOK w N R) (hR:Rd w w.heap.size A (boolsV a)) (hS:Rd w w.heap.size B (boolsV b)) (hb:b.length=R.length) (h1:0 < R.length):Calls Tryz.prog 69 #[.slice N R.length d,.slice A a.length c,.slice B b.length e0] w fun e w'=>BoR w (allL R a b) e w':=by
 have hn:=hN.few;have HI:=zI (fun (w':World) (h:Chg (fun _=>False) w w') (x:Int)=>is_any w' a A c x (hR.later h (fun _ h=>h.elim)));obtain ⟨i,hi,hzz⟩:=Option.map_eq_some_iff.1 bool_info;simp only[Prod.mk.injEq] at hzz;obtain ⟨hz0,hz1,hz2⟩:=hzz;unfold allL;rw[hb];have hself:=upTo_self b;rw[hb] at hself;obtain ⟨n,hnn⟩:∃ n,n=R.length:=⟨_,rfl⟩;have hlen:Hid ((boolsV b).length=n * 1):=by show _=_;rw[boolsV_len,hb,hnn];omega
 rw[<-hnn] at h1 hself |-;rw[<-hnn] at hn;have HE:=zI (fun (w':World) (h:Chg (fun _=>False) w w') (base g cap:Nat) (f:Nat->Bool) (hb:w'.ownsRow base 4 1 (.slice (some ⟨g,0,none⟩) n cap) n (boolsV (upTo f n)))=>every_own w R N d hN w' h base g n cap hnn f hb);obtain ⟨s,hs⟩:∃ s,s=allStep R a:=⟨_,rfl⟩;rw[<-hs];replace hs:=zI (show ∀ h i,s h i=(h i || (isB a i && everyB R (upTo h n) i)) by rw[hs,hnn];intro h i;rfl);obtain ⟨h0,hh0⟩:∃ h0:Nat->Bool,h0=fun (i:Nat)=>isB b (i:Int):=⟨_,rfl⟩
 rw[<-hh0] at hself |-;clear hh0;replace hnn:=zI hnn;obtain ⟨bo,oo,rfl,hbl,hbc⟩:=hS.plain (by rw[hlen.out];omega);have hS2:=zI hbc;have hbl2:=zI hbl;replace hself:=zI hself;clear hR hN hS hb hbc hbl;go_enter Tryz.func69,Tryz.ntmps69;go_wp2_with (at_builtin;refine wpList_append_lies _ rfl (.tmp 11) (.tmp 12) 47 rfl w.heap.size 4 i _ 1 1 Tryz.underlying47 hi hz0 hz1 hz2 rfl (by omega) (.slice (some ⟨w.heap.size,0,none⟩) 0 0) 0 [] rfl (by exact World.ownsRow_lit w #[] 0 (Nat.le_refl _) (Nat.zero_le _) rfl) ⟨bo,oo,none⟩ n e0 (boolsV b) rfl hlen.out (by intro j u hu;rw[add_row,World.cell?_alloc_lt _ _ _ hbl2.out];exact hS2.out j u hu) (by intro u hu;simp only[boolsV,List.mem_map] at hu;obtain ⟨x,_,rfl⟩:=hu;rfl) h1 (by unfold maxLen;omega) (by omega) (by simp) (w.heap.size+1) (by simp) ?_;intro g cap w3 hown3 hg3 hat3 hlt3;have HO:Hid (w3.ownsRow w.heap.size 4 1 (.slice (some ⟨g,0,none⟩) n cap) n (boolsV (upTo (iter s 0 h0) n))):=(by rw[Nat.zero_add,List.nil_append,<-hself.out] at hown3;exact hown3);have HC:Hid (Chg (fun _=>False) w w3):=(Chg.grown ((Chg.refl _ w).alloc _) hg3 (fun k hk=>.inr (by simp[Value.ownBlock] at hk;omega)));clear hown3 hg3 hat3 hlt3;rw[Nat.zero_add])
 have hself0:=hself;clear hself hS2 hbl2 hlen;go_loopw [8,9,10] (fun x _ _ wt=>∃ m:Nat,m<=n+1/\x=.int .i64 m/\Hid (wt.ownsRow w.heap.size 4 1 (.slice (some ⟨g,0,none⟩) n cap) n (boolsV (upTo (iter s m h0) n)))/\Hid (Chg (fun _=>False) w wt)) (fun x _ _ _=>n+1 - (intOf x).toNat)
 case atStart=>exact ⟨0,Nat.zero_le _,rfl,HO,HC⟩
 case round=>
  obtain ⟨m,hm,rfl,hO5,hC5⟩:=hrel;by_cases hle:m<=n
  ·have hd:decide ((m:Int)<=(n:Int))=true:=by rw[dT];omega
   have HE5:=zI (HE.out wr hC5.out _ g cap _ hO5.out);obtain ⟨h,hh⟩:∃ h,h=iter s m h0:=⟨_,rfl⟩;rw[<-hh] at hO5 HE5;replace hh:=zI hh;obtain ⟨xf,hxf⟩:∃ xf,xf=everyB R (upTo h n):=⟨_,rfl⟩;rw[<-hxf] at HE5;have hst:Hid (∀ i,s h i=(h i || (isB a i && xf i))):=by intro i;rw[hs.out,hxf]
   clear hxf;go_wp2_with (go_at_call 68;refine HE5.out.mono ?_;rintro e w2 ⟨Ax,cx,rfl,hx1,hx2,hxR,hxC,hxF⟩;have HX:=zI hxR;have HC2:=zI (Ct hC5.out hxC);have HB2:=zI (own_chg hO5.out hxC (fun _ _ h=>h));have HF:Hid (∀ ad,Ax=some ad->g ≠ ad.block):=(fun ad he e=>by have:=hxF ad he;have:=own_lt hO5.out g rfl;omega);clear hx1 hx2 hxR hxC hxF;rw[upTo_len])
   go_loopw [10] (fun y wk=>∃ k:Nat,k<=n/\y=.int .i64 k/\Hid (wk.ownsRow w.heap.size 4 1 (.slice (some ⟨g,0,none⟩) n cap) n (boolsV (upTo (mix h (s h) k) n)))/\Hid (Rd wk w2.heap.size Ax (boolsV (upTo xf n)))/\Hid (Chg (fun _=>False) w wk)) (fun y _=>n - (intOf y).toNat)
   case atStart=>exact ⟨0,Nat.zero_le _,rfl,by rw[mix_zero];exact HB2,HX,HC2⟩
   case round=>
    obtain ⟨k,hk,rfl,hO6,hX6,hC6⟩:=hrel;by_cases hkl:k < n
    ·obtain ⟨b1,o1,hA1,_,hc1⟩:=bool_at hX6.out (i:=k) (x:=xf k) (by rw[upTo_get];simp[hkl]);have hck:=ownB_cell hO6.out hkl;rw[mix_at] at hck;have hfr:=hO6.out.frozenAt k;have hgb:=own_base (Nat.le_refl _) hO6.out;have hO7:=zI (ownB_set hO6.out (i:=k) (s h k));rw[mix_upd] at hO7;have hC7:=zI (Chg.setCell hC6.out (p:=⟨g,k,none⟩) (.inr hgb) (.bool (s h k)));have hX7:=zI (rd_far hX6.out (p:=⟨g,k,none⟩) HF.out (.bool (s h k)));have HIk:=zI (HI.out _ hC6.out k);have hsk:=hst.out k;obtain ⟨zb,hzb⟩:∃ zb,zb=s h k:=⟨_,rfl⟩;obtain ⟨xb,hxb⟩:∃ xb,xb=xf k:=⟨_,rfl⟩;obtain ⟨yb,hyb⟩:∃ yb,yb=h k:=⟨_,rfl⟩;obtain ⟨pb,hpb⟩:∃ pb,pb=isB a k:=⟨_,rfl⟩;simp only[<-hxb,<-hyb,<-hzb,<-hpb] at hO7 hC7 hX7 hck hc1 hsk HIk;clear hxb hyb hzb hpb hgb;subst hA1;cases yb<;>cases pb<;>cases xb;all_goals (simp at hsk;subst hsk)
     all_goals go_wp2_with (go_at_call 35;refine HIk.out.mono ?_;rintro e w' ⟨rfl,rfl⟩)
     all_goals go_roundw
     all_goals first | ((simp[intOf]<;>omega);done) | exact ⟨k+1,by omega,by go_num,hO7,hX7,hC7⟩
    ·obtain rfl:k=n:=by omega
     have hO8:Hid (wr.ownsRow w.heap.size 4 1 (.slice (some ⟨g,0,none⟩) k cap) k (boolsV (upTo (iter s (m+1) h0) k))):=by
      show World.ownsRow _ _ _ _ _ _ _;have:=hO6.out;rw[mix_all,hh.out] at this;exact this
     go_wp2_with fail
     go_roundw
     case rel=>exact ⟨m+1,by omega,by go_num,hO8,hC6⟩
     case measure=>(simp[intOf]<;>omega)
  ·obtain rfl:m=n+1:=by omega
   have hd:decide (((n+1:Nat):Int)<=(n:Int))=false:=by rw[dF];omega
   have hd2:decide (((n:Int)+1)<=(n:Int))=false:=by rw[dF];omega
   go_wp2
   go_ret;exact ownB_bor (Nat.le_refl _) hO5.out hC5.out
def notL (a:List Bool):List Bool:=upTo (fun i=>!a.getD i false) a.length
theorem not_any (w:World) (a:List Bool) (A:Option Addr) (c:Nat) (hR:Rd w w.heap.size A (boolsV a)) (hn:a.length<=100000):Calls Tryz.prog 67 #[.slice A a.length c] w fun e w'=>BoR w (notL a) e w':=by
 obtain ⟨i,hi,hzz⟩:=Option.map_eq_some_iff.1 bool_info;simp only[Prod.mk.injEq] at hzz;obtain ⟨hz0,hz1,hz2⟩:=hzz;unfold notL;obtain ⟨f,hf⟩:∃ f:Nat->Bool,f=fun i=>!a.getD i false:=⟨_,rfl⟩
 rw[<-hf];replace hf:=zI hf;replace hR:=zI hR;go_enter Tryz.func67,Tryz.ntmps67;go_wp2_with fail
 go_loopw [4,3] (fun x v wr=>∃ j:Nat,j<=a.length/\x=.int .i64 j/\Hid (wr.ownsRow w.heap.size 4 1 v j (boolsV (upTo f j)))/\Hid (Chg (fun _=>False) w wr)) (fun x _ _=>a.length - (intOf x).toNat)
 case atStart=>exact ⟨0,Nat.zero_le _,rfl,zI (World.ownsRow_nil _ _ _ _),Chg.refl _ _⟩
 case round=>
  obtain ⟨j,hj,rfl,hO,hC⟩:=hrel;by_cases hlt:j < a.length
  ·have hs:=zI (upTo_succ f j);obtain ⟨b,o,hA,hb,hc⟩:=bool_at (hR.out.later hC.out (fun _ h=>h.elim)) (gG hlt);have hx:Hid (f j=!a[j]):=by show _=_;rw[hf.out];simp[List.getD_eq_getElem?_getD,hlt]
   obtain ⟨x,hxx⟩:∃ x,x=a[j]:=⟨_,rfl⟩;rw[<-hxx] at hc hx;clear hxx hR hb;subst hA;go_wp2_with (at_builtin;refine wpList_append_own _ rfl (.tmp 11) (.tmp 17) 47 rfl w.heap.size 4 i _ 1 1 Tryz.underlying47 hi hz0 hz1 hz2 rfl (by omega) u3 j (boolsV (upTo f j)) rfl (by exact hO.out.alloc _) ⟨wr.heap.size,0,none⟩ 1 1 [.bool !x] rfl rfl (by exact all_new (Blk.new wr 4 #[.bool !x])) (by intro u hu;simp at hu;subst hu;rfl) (by unfold maxLen;omega) (by omega) (by have:=hC.out.size;simp;omega) ?_;intro v' w3 hown3 hg3 hat3;have HO3:=zI hown3;have HC3:=zI (app1 hO.out hC.out _ hg3);clear hown3 hg3 hat3)
   go_roundw
   case rel=>exact ⟨j+1,by omega,by go_num,zI (by rw[hs.out,boolsV_append,hx.out];exact HO3.out),HC3⟩
   case measure=>(simp[intOf]<;>omega)
  ·obtain rfl:j=a.length:=by omega
   obtain ⟨A',c',rfl,hqc,hcm⟩:=own_slice hO.out;clear hqc hcm;go_wp2
   go_ret;exact bor_end (Chg.refl _ w) hO.out hC.out
def putB (op:Int) (x y:Bool):Bool:=if op=18 then !x || y else if op=17 then x || y else x && y
def putL (op:Int) (a b:List Bool) (n:Nat):List Bool:=upTo (fun i=>putB op (a.getD i false) (b.getD i false)) n
def putQ (p q x y:Bool):Bool:=if q=true then !x || y else if p=true then x || y else x && y
theorem put_any (w:World) (op:Int) (a b:List Bool) (A B:Option Addr) (c d:Nat) (hR:Rd w w.heap.size A (boolsV a)) (hS:Rd w w.heap.size B (boolsV b)) (hab:b.length=a.length) (hn:a.length<=100000):Calls Tryz.prog 71 #[.int .i64 op,.slice A a.length c,.slice B b.length d] w fun e w'=>BoR w (putL op a b a.length) e w':=by
 obtain ⟨i,hi,hzz⟩:=Option.map_eq_some_iff.1 bool_info;simp only[Prod.mk.injEq] at hzz;obtain ⟨hz0,hz1,hz2⟩:=hzz;unfold putL;obtain ⟨f,hf⟩:∃ f:Nat->Bool,f=fun i=>putB op (a.getD i false) (b.getD i false):=⟨_,rfl⟩
 rw[<-hf];obtain ⟨p,d17⟩:∃ p,(op ==17)=p:=⟨_,rfl⟩;obtain ⟨q,d18⟩:∃ q,(op ==18)=q:=⟨_,rfl⟩;have hf2:Hid (∀ j,f j=putQ p q (a.getD j false) (b.getD j false)):=by
  intro j;rw[hf,<-d17,<-d18];simp[putB,putQ]
 clear hf;rw[hab];replace hR:=zI hR;replace hS:=zI hS;go_enter Tryz.func71,Tryz.ntmps71;go_wp2_with fail
 go_loopw [8,7,9] (fun x v _ wr=>∃ j:Nat,j<=a.length/\x=.int .i64 j/\Hid (wr.ownsRow w.heap.size 4 1 v j (boolsV (upTo f j)))/\Hid (Chg (fun _=>False) w wr)) (fun x _ _ _=>a.length - (intOf x).toNat)
 case atStart=>exact ⟨0,Nat.zero_le _,rfl,zI (World.ownsRow_nil _ _ _ _),Chg.refl _ _⟩
 case round=>
  obtain ⟨j,hj,rfl,hO,hC⟩:=hrel;by_cases hlt:j < a.length
  ·have hs:=zI (upTo_succ f j);have hltb:j < b.length:=by omega
   obtain ⟨b0,o0,hA,hb0,hc⟩:=bool_at (hR.out.later hC.out (fun _ h=>h.elim)) (gG hlt);obtain ⟨b1,o1,hB,hb1,hc1⟩:=bool_at (hS.out.later hC.out (fun _ h=>h.elim)) (gG hltb);have hx:Hid (f j=putQ p q a[j] b[j]):=by show _=_;rw[hf2.out j];simp[List.getD_eq_getElem?_getD,hlt,hltb]
   obtain ⟨x,hxx⟩:∃ x,x=a[j]:=⟨_,rfl⟩;obtain ⟨y,hyy⟩:∃ y,y=b[j]:=⟨_,rfl⟩;rw[<-hxx,<-hyy] at hx;rw[<-hxx] at hc;rw[<-hyy] at hc1;clear hxx hyy hR hS hb0 hb1 hltb hab hf2;subst hA hB;obtain ⟨r,hr⟩:∃ r,r=putQ p q x y:=⟨_,rfl⟩;rw[<-hr] at hx;cases p<;>cases q<;>cases x<;>cases y;all_goals (simp[putQ] at hr;subst hr)
   all_goals go_wp2_with (at_builtin;refine wpList_append_own _ rfl (.tmp 57) (.tmp 59) 47 rfl w.heap.size 4 i _ 1 1 Tryz.underlying47 hi hz0 hz1 hz2 rfl (by omega) u7 j (boolsV (upTo f j)) rfl (by exact hO.out.alloc _) ⟨wr.heap.size,0,none⟩ 1 1 [.bool _] rfl rfl (by exact all_new (Blk.new wr 4 #[.bool _])) (by intro u hu;simp at hu;subst hu;rfl) (by unfold maxLen;omega) (by omega) (by have:=hC.out.size;simp;omega) ?_;intro v' w3 hown3 hg3 hat3;have HO3:=zI hown3;have HC3:=zI (app1 hO.out hC.out _ hg3);clear hown3 hg3 hat3)
   all_goals go_roundw
   all_goals first | ((simp[intOf]<;>omega);done) | exact ⟨j+1,by omega,by go_num,zI (by rw[hs.out,boolsV_append,hx.out];exact HO3.out),HC3⟩
  ·obtain rfl:j=a.length:=by omega
   obtain ⟨A',c',rfl,hqc,hcm⟩:=own_slice hO.out;clear hqc hcm;go_wp2
   go_ret;exact bor_end (Chg.refl _ w) hO.out hC.out
end
end Go.Proofs.YthohgagkjnbkbaaGreat
