/- FragTrue, part 26: FrStE. Each theorem says what a function does, or a plain fact, under its own premises alone. -/
import Derived.Test.YthohgagkjnbkbaaGreatP25
set_option maxRecDepth 100000
set_option maxHeartbeats 16000000
namespace Go.Proofs.YthohgagkjnbkbaaGreat
section
open Go.RowKit
def BRow (w:World) (g:Nat) (l:List Bool):Prop:=∃ cur,Blk w g 4 cur/\∀ (j:Nat) (x:Bool),l[j]?=some x->cur[j]?=some (Value.bool x)
theorem BRow.of_own {w:World} {base c n:Nat} {g:Nat} {l:List Bool} (hO:w.ownsRow base 4 1 (.slice (some ⟨g,0,none⟩) n c) n (boolsV l)):BRow w g l:=by
 obtain ⟨cur,hb⟩:=own_blk hO (g:=g) rfl;refine ⟨cur,hb,fun j x hx=>?_⟩;have hR:=own_rd hO;obtain ⟨ad,e,hlt,hc⟩:=hR (by rw[boolsV_len];exact Nat.lt_of_le_of_lt (Nat.zero_le _) (List.getElem?_eq_some_iff.1 hx).1);injection e with e;subst e;have:=hc j (.bool x) (by simp[boolsV,hx]);rwa [add_row,Nat.zero_add,hb.cell] at this
theorem BRow.chg {w w':World} {S:Nat->Prop} {g:Nat} {l:List Bool} (h:BRow w g l) (hc:Chg S w w') (hg:¬ S g):BRow w' g l:=let ⟨cur,hb,hx⟩:=h;⟨cur,hb.chg hc hg,hx⟩
theorem BRow.far {w:World} {g:Nat} {l:List Bool} (h:BRow w g l) {p:Addr} (hp:g ≠ p.block) (u:Value):BRow (w.setCell p u) g l:=let ⟨cur,hb,hx⟩:=h;⟨cur,hb.far hp u,hx⟩
theorem BRow.cell {w:World} {g:Nat} {l:List Bool} (h:BRow w g l) {j:Nat} (hj:j < l.length):w.cell? ⟨g,j,none⟩=some (.bool l[j]):=let ⟨_,hb,hx⟩:=h;(hb.cell j).trans (hx j _ (gG hj))
theorem BRow.frozen {w:World} {g:Nat} {l:List Bool} (h:BRow w g l) (j:Nat):w.frozen? ⟨g,j,none⟩=false:=let ⟨_,hb,_⟩:=h;hb.frozen j
theorem BRow.set {w:World} {g:Nat} {l:List Bool} (h:BRow w g l) {j:Nat} (hj:j < l.length) (b:Bool):BRow (w.setCell ⟨g,j,none⟩ (.bool b)) g (l.set j b):=by
 obtain ⟨cur,hb,hx⟩:=h;refine ⟨_,hb.set j (.bool b),fun i x hi=>?_⟩;have hjc:=(Array.getElem?_eq_some_iff.1 (hx j _ (gG hj))).1;by_cases hij:j=i
 ·subst hij;rw[List.getElem?_set_self hj] at hi;injection hi with hi;subst hi;simp[hjc]
 ·rw[List.getElem?_set_ne hij] at hi;rw[Array.getElem?_setIfInBounds_ne hij];exact hx i x hi
theorem BRow.rd {w:World} {g:Nat} {l:List Bool} (h:BRow w g l):Rd w w.heap.size (some ⟨g,0,none⟩) (boolsV l):=fun _=>by
 obtain ⟨cur,hb,hx⟩:=h;refine ⟨_,rfl,hb.lt,fun j u hu=>?_⟩;rw[add_row,Nat.zero_add,hb.cell];unfold boolsV at hu;rw[List.getElem?_map] at hu;cases hl:l[j]? with
 | none=>rw[hl] at hu;cases hu
 | some x=>
  rw[hl] at hu;have:u=.bool x:=by simpa using hu.symm
  rw[this];exact hx j x hl
theorem blk_st5 {w:World} {z:Nat} {t:TypeId} {c0 c1 c2 c3 c4:Value} (hb:Blk w z t #[c0,c1,c2,c3,c4]) (v0 v1 v2 v3 v4:Value):Blk (((((w.setCell ⟨z,0,none⟩ v0).setCell ⟨z,1,none⟩ v1).setCell ⟨z,2,none⟩ v2).setCell ⟨z,3,none⟩ v3).setCell ⟨z,4,none⟩ v4) z t #[v0,v1,v2,v3,v4]/\Chg (fun k=>k=z) w (((((w.setCell ⟨z,0,none⟩ v0).setCell ⟨z,1,none⟩ v1).setCell ⟨z,2,none⟩ v2).setCell ⟨z,3,none⟩ v3).setCell ⟨z,4,none⟩ v4):=by
 constructor
 ·have h:=((((hb.set 0 v0).set 1 v1).set 2 v2).set 3 v3).set 4 v4;simpa using h
 ·have c:=Chg.refl (fun k=>k=z) w;exact ((((c.setCell (p:=⟨z,0,none⟩) (.inl rfl) _).setCell (p:=⟨z,1,none⟩) (.inl rfl) _).setCell (p:=⟨z,2,none⟩) (.inl rfl) _).setCell (p:=⟨z,3,none⟩) (.inl rfl) _).setCell (p:=⟨z,4,none⟩) (.inl rfl) _
theorem cells4 (w:World) (t1 t2 t3 t4:TypeId) (a b c d:Array Value):Blk ((((w.alloc (.cells a t1)).alloc (.cells b t2)).alloc (.cells c t3)).alloc (.cells d t4)) w.heap.size t1 a/\Blk ((((w.alloc (.cells a t1)).alloc (.cells b t2)).alloc (.cells c t3)).alloc (.cells d t4)) (w.heap.size+1) t2 b/\Blk ((((w.alloc (.cells a t1)).alloc (.cells b t2)).alloc (.cells c t3)).alloc (.cells d t4)) (w.heap.size+2) t3 c/\Blk ((((w.alloc (.cells a t1)).alloc (.cells b t2)).alloc (.cells c t3)).alloc (.cells d t4)) (w.heap.size+3) t4 d:=by
 obtain ⟨h1,h2,h3⟩:=cells3 w t1 t2 t3 a b c;refine ⟨h1.alloc _,h2.alloc _,h3.alloc _,?_⟩;have h:=Blk.new (((w.alloc (.cells a t1)).alloc (.cells b t2)).alloc (.cells c t3)) t4 d;rwa [show (((w.alloc (.cells a t1)).alloc (.cells b t2)).alloc (.cells c t3)).heap.size=w.heap.size+3 by simp] at h
def SC.turn (s:SC) (o d:Int):SC:=⟨s.aV,s.nV,s.cV,o,d,s.aD,s.did,s.cD,s.aC,s.cnt,s.cC⟩
theorem SOK.turn {w:World} {s:SC} {o d:Int} (h:SOK w s) (ho:inR o) (hd:inR d):SOK w (s.turn o d):=⟨h.did,h.cnt,h.few,ho,hd,h.didR,h.cntR⟩
theorem sum_in (l:List Bool) (h:l.length=31):inR (sumUp l l.length):=by
 have:=sumUp_lt l l.length;rw[h] at this |-;unfold inR;omega
def FiZ (z:Nat) (k:Nat):Prop:=k=z+1\/k=z+3
theorem scells' {w:World} {g:Nat} {s:SC} (h:Blk w g 134 (sA s)):(w.cell? ⟨g,0,none⟩=some (.slice s.aV s.nV s.cV)/\w.cell? ⟨g,1,none⟩=some (.int .i64 s.op)/\w.cell? ⟨g,2,none⟩=some (.int .i64 s.dn)/\w.cell? ⟨g,3,none⟩=some (.slice s.aD s.did.length s.cD)/\w.cell? ⟨g,4,none⟩=some (.slice s.aC s.cnt.length s.cC))/\∀ i,w.frozen? ⟨g,i,none⟩=false:=⟨scells h,h.frozen⟩
theorem rcells {w:World} {g:Nat} {t:TypeId} (h:Blk w g t #[.slice none 0 0,.int .i64 0,.int .i64 0,.slice none 0 0,.slice none 0 0]):(w.cell? ⟨g,0,none⟩=some (.slice none 0 0)/\w.cell? ⟨g,1,none⟩=some (.int .i64 0)/\w.cell? ⟨g,2,none⟩=some (.int .i64 0)/\w.cell? ⟨g,3,none⟩=some (.slice none 0 0)/\w.cell? ⟨g,4,none⟩=some (.slice none 0 0))/\∀ i,w.frozen? ⟨g,i,none⟩=false:=by
 refine ⟨⟨?_,?_,?_,?_,?_⟩,h.frozen⟩<;>rw[h.cell]<;>rfl
theorem fire_any (w:World) (m:MC) (X:MX) (s:SC) (b:Bool) (n:Int) (hX:XOK w m X) (hS:SOK w s):Calls Tryz.prog 92 #[.agg (mA m),.agg (sA s),.agg #[.bool b,.int .i64 n]] w fun e w'=>(∃ o d:Int,e=.returned (.agg (sA (s.turn o d)))/\inR o/\inR d)/\Chg (fun _=>False) w w':=by
 obtain ⟨h1,h2,h3,h4⟩:=cells4 w 32 134 130 134 (mA m) (sA s) #[.bool b,.int .i64 n] #[.slice none 0 0,.int .i64 0,.int .i64 0,.slice none 0 0,.slice none 0 0];have C0:Hid (Chg (fun _=>False) w ((((w.alloc (.cells (mA m) 32)).alloc (.cells (sA s) 134)).alloc (.cells #[.bool b,.int .i64 n] 130)).alloc (.cells #[.slice none 0 0,.int .i64 0,.int .i64 0,.slice none 0 0,.slice none 0 0] 134))):=(chg3 w (.cells (mA m) 32) (.cells (sA s) 134) (.cells #[.bool b,.int .i64 n] 130)).alloc _;obtain ⟨w1,hw1⟩:∃ w1,w1=((((w.alloc (.cells (mA m) 32)).alloc (.cells (sA s) 134)).alloc (.cells #[.bool b,.int .i64 n] 130)).alloc (.cells #[.slice none 0 0,.int .i64 0,.int .i64 0,.slice none 0 0,.slice none 0 0] 134)):=⟨_,rfl⟩;rw[<-hw1] at C0 h1 h2 h3 h4;have HZ:=zI (fun (w':World) (h:Chg (FiZ w.heap.size) w1 w')=>Chg.trans C0.out h (fun i hi e=>by rcases e with e | e<;>omega));have HX:=zI (fun (w':World) (h:Chg (FiZ w.heap.size) w1 w')=>hX.later (HZ.out w' h));have HM:=zI (fun (w':World) (h:Chg (FiZ w.heap.size) w1 w')=>mcells (h1.chg h (by rintro (e | e)<;>omega)));have HN:=zI (fun (w':World) (h:Chg (FiZ w.heap.size) w1 w')=>show w'.cell? ⟨w.heap.size+2,0,none⟩=some (.bool b)/\w'.cell? ⟨w.heap.size+2,1,none⟩=some (.int .i64 n) from ⟨by rw[(h3.chg h (by rintro (e | e)<;>omega)).cell];rfl,by rw[(h3.chg h (by rintro (e | e)<;>omega)).cell];rfl⟩);have H2:=zI h2;have H4:=zI h4;have hlt1:w.heap.size+3 < w1.heap.size:=h4.lt;have hsn:=zI hX.stN;have hst:=hX.few.1;have hmf:=hX.few.2.2.2.1;obtain ⟨-,-,-,-,e4,-,e6,e7,-,-⟩:=HM.out w1 (Chg.refl _ _);obtain ⟨g0,g1⟩:=HN.out w1 (Chg.refl _ _);have hop:=zI hS.opR;have hdn:=zI hS.dnR;clear h1 h2 h3 h4 hX hS;unfold mA sA at hw1 |-;cases b with
 | true=>
  obtain ⟨c,qc⟩:∃ c,inB18v n m.mi.length=c:=⟨_,rfl⟩;have HIK:=zI (fun n':KW w1=>kept_same (inB18 n'.w n m.mi.length qc));cases c with
  | false=>
   clear qc;have K4:=fun n:KW w1=>kept_cell e4 n
   have K6:=fun n:KW w1=>kept_cell e6 n
   have K7:=fun n:KW w1=>kept_cell e7 n
   have G1:=fun n:KW w1=>kept_cell g1 n
   go_enter Tryz.func92,Tryz.ntmps92;go_wp2_with fail
   rw[<-hw1];clear hw1;go_wp2_with fail
   refine wp_region_kept w1 (Chg.refl _ _) (by kernel_rfl) (by kernel_rfl) ?_;repeat (go_big_quiet_step (with_reducible exact HIK.out _))
   refine wpQuiet_nil ?_;rintro w4 ⟨n4,rfl⟩;have C4:Hid (Chg (FiZ w.heap.size) w1 n4.w):=n4.h.mono (fun _ _ h=>h.elim);obtain ⟨w5,hw5⟩:∃ w5,w5=n4.w:=⟨_,rfl⟩;have B2:Hid (Blk w5 (w.heap.size+1) 134 (sA s)):=by rw[hw5];exact H2.out.chg n4.h (fun h=>h)
   have B4:Hid (Blk w5 (w.heap.size+3) 134 #[.slice none 0 0,.int .i64 0,.int .i64 0,.slice none 0 0,.slice none 0 0]):=by rw[hw5];exact H4.out.chg n4.h (fun h=>h)
   rw[<-hw5] at C4 |-;clear hw5;obtain ⟨⟨f0,f1,f2,f3,f4⟩,ff⟩:=scells' B2.out;obtain ⟨⟨r0,r1,r2,r3,r4⟩,rf⟩:=rcells B4.out;go_wp2
   exact bodyPost_ret (results_cell_row rfl _ _ _ _ _ _ _ rfl (blk_st5 B4.out _ _ _ _ _).1 Tryz.underlying134 rfl (by kernel_rfl)) rfl ⟨⟨s.op,s.dn,rfl,hop.out,hdn.out⟩,HZ.out _ (Chg.trans C4.out (blk_st5 B4.out _ _ _ _ _).2 (fun i hi e=>.inr e))⟩
  | true=>
   obtain ⟨k,rfl,hk⟩:=inB18_yes qc;obtain ⟨x,hx⟩:∃ x,m.mi[k]?=some x:=⟨_,gG hk⟩;obtain ⟨b0,o0,hA,_,c0,c1,c2,c3,c4⟩:=miC_at (HX.out w1 (Chg.refl _ _)).mo.mi hx;rw[hA] at e7 hw1;rw[hA];have K4:=fun n:KW w1=>kept_cell e4 n
   have K6:=fun n:KW w1=>kept_cell e6 n
   have K7:=fun n:KW w1=>kept_cell e7 n
   have G1:=fun n:KW w1=>kept_cell g1 n
   have U0:=fun n:KW w1=>kept_cell c0 n
   have U1:=fun n:KW w1=>kept_cell c1 n
   have U2:=fun n:KW w1=>kept_cell c2 n
   have U3:=fun n:KW w1=>kept_cell c3 n
   have U4:=fun n:KW w1=>kept_cell c4 n
   obtain ⟨d,qd⟩:∃ d,inB18v x.stage m.nS=d:=⟨_,rfl⟩;have HJK:=zI (fun n':KW w1=>kept_same (inB18 n'.w x.stage m.nS qd));clear qc;replace hA:=zI hA;cases d with
   | false=>
    clear qd hx;go_enter Tryz.func92,Tryz.ntmps92;go_wp2_with fail
    rw[<-hw1];clear hw1;go_wp2_with fail
    refine wp_region_kept w1 (Chg.refl _ _) (by kernel_rfl) (by kernel_rfl) ?_;repeat (go_big_quiet_step (first | with_reducible exact HIK.out _ | with_reducible exact HJK.out _))
    refine wpQuiet_nil ?_;rintro w4 ⟨n4,rfl⟩;have C4:Hid (Chg (FiZ w.heap.size) w1 n4.w):=n4.h.mono (fun _ _ h=>h.elim);obtain ⟨w5,hw5⟩:∃ w5,w5=n4.w:=⟨_,rfl⟩;have B2:Hid (Blk w5 (w.heap.size+1) 134 (sA s)):=by rw[hw5];exact H2.out.chg n4.h (fun h=>h)
    have B4:Hid (Blk w5 (w.heap.size+3) 134 #[.slice none 0 0,.int .i64 0,.int .i64 0,.slice none 0 0,.slice none 0 0]):=by rw[hw5];exact H4.out.chg n4.h (fun h=>h)
    rw[<-hw5] at C4 |-;clear hw5;obtain ⟨⟨f0,f1,f2,f3,f4⟩,ff⟩:=scells' B2.out;obtain ⟨⟨r0,r1,r2,r3,r4⟩,rf⟩:=rcells B4.out;go_wp2
    exact bodyPost_ret (results_cell_row rfl _ _ _ _ _ _ _ rfl (blk_st5 B4.out _ _ _ _ _).1 Tryz.underlying134 rfl (by kernel_rfl)) rfl ⟨⟨s.op,s.dn,rfl,hop.out,hdn.out⟩,HZ.out _ (Chg.trans C4.out (blk_st5 B4.out _ _ _ _ _).2 (fun i hi e=>.inr e))⟩
   | true=>
    obtain ⟨j,hj,hj2⟩:=inB18_yes qd;replace hj:=zI hj;replace hx:=zI hx;clear qd;go_enter Tryz.func92,Tryz.ntmps92;go_wp2_with fail
    rw[<-hw1];clear hw1;go_wp2_with fail
    refine wp_region_kept w1 (Chg.refl _ _) (by kernel_rfl) (by kernel_rfl) ?_;repeat (go_big_quiet_step (first | with_reducible exact HIK.out _ | with_reducible exact HJK.out _))
    refine wpQuiet_nil ?_;rintro w4 ⟨n4,rfl⟩;have C4:Hid (Chg (FiZ w.heap.size) w1 n4.w):=n4.h.mono (fun _ _ h=>h.elim);obtain ⟨w5,hw5⟩:∃ w5,w5=n4.w:=⟨_,rfl⟩;have B2:Hid (Blk w5 (w.heap.size+1) 134 (sA s)):=by rw[hw5];exact H2.out.chg n4.h (fun h=>h)
    have B4:Hid (Blk w5 (w.heap.size+3) 134 #[.slice none 0 0,.int .i64 0,.int .i64 0,.slice none 0 0,.slice none 0 0]):=by rw[hw5];exact H4.out.chg n4.h (fun h=>h)
    rw[<-hw5] at C4 |-;clear hw5;clear K4 K6 K7 G1 HIK HJK U0 U1 U2 U3 U4;obtain ⟨-,-,-,-,-,-,-,ex,-,-⟩:=HM.out w5 C4.out;obtain ⟨b1,o1,hA1,_,-,cS,-,-,-⟩:=miC_at (HX.out w5 C4.out).mo.mi hx.out;rw[hA1] at ex;have hA2:b1=b0/\o1=o0:=by
     have h6:=hA.out;rw[hA1] at h6;injection h6 with h6;injection h6 with h7 h8 _;exact ⟨h7,h8⟩
    obtain ⟨rfl,rfl⟩:=hA2;obtain ⟨n0,n1⟩:=HN.out w5 C4.out;obtain ⟨⟨f0,f1,f2,f3,f4⟩,ff⟩:=scells' B2.out;rw[hj.out] at cS;clear hA1 c0 c1 c2 c3 c4 e4 e6 e7 g0 g1;go_wp2_with fail
    go_at_call 88
    refine (put14_any w5 s.dn k true hdn.out).mono ?_;rintro e w6 ⟨rfl,hC6⟩;have hp1:=zI (puN_inR s.dn k true);obtain ⟨d1,hd1⟩:∃ d1,d1=puN s.dn k true:=⟨_,rfl⟩;rw[<-hd1] at hp1 |-;clear hd1;have B2':=zI (B2.out.chg hC6 (fun h=>h));have B4':=zI (B4.out.chg hC6 (fun h=>h));have C6:=zI (Chg.trans C4.out hC6 (fun _ _ h=>h.elim));clear f0 f1 f2 f3 f4 ff n0 n1 hC6 ex cS;obtain ⟨⟨f0,f1,f2,f3,f4⟩,ff⟩:=scells' B2'.out;go_wp2_with fail
    obtain ⟨w7,hw7⟩:∃ w7,w7=w6.setCell ⟨w.heap.size+1,2,none⟩ (.int .i64 d1):=⟨_,rfl⟩;have B2'':Hid (Blk w7 (w.heap.size+1) 134 (sA (s.turn s.op d1))):=by
     have:=B2'.out.set 2 (.int .i64 d1);rw[hw7];show Blk _ _ _ _;simpa [sA,SC.turn] using this
    have B4'':Hid (Blk w7 (w.heap.size+3) 134 #[.slice none 0 0,.int .i64 0,.int .i64 0,.slice none 0 0,.slice none 0 0]):=by rw[hw7];exact B4'.out.far (by show w.heap.size+3 ≠ w.heap.size+1;omega) _
    have C7:Hid (Chg (FiZ w.heap.size) w1 w7):=by rw[hw7];exact C6.out.setCell (.inl (.inl rfl)) _
    rw[<-hw7];clear hw7 f0 f1 f2 f3 f4 ff B2' B4' B2 B4 C4 C6;go_at_call 117
    refine (inL_own w7 s.op hop.out).mono ?_;rintro e w8 ⟨v,rfl,hO,hC8⟩;obtain ⟨g,c,rfl,hg8,-,-,-⟩:=own_form hO (by omega);have hgw:w7.heap.size<=g:=(hO.lt g rfl).1;have hgz:w1.heap.size<=g:=Nat.le_trans C7.out.size hgw;have hR8:=zI (BRow.of_own hO);have hL8:Hid ((upTo (fun (i:Nat)=>hasB s.op (i:Int)) 31).length=31):=upTo_len _ _;have C8:=zI (Chg.trans C7.out hC8 (fun _ _ h=>h.elim));have B28:=zI (B2''.out.chg hC8 (fun h=>h));have B48:=zI (B4''.out.chg hC8 (fun h=>h));clear hO hC8 B2'' B4'' C7;go_wp2_with fail
    go_loopw [9] (fun x wr=>∃ (i:Nat) (l:List Bool),i<=m.nS/\x=.int .i64 i/\Hid (l.length=31/\BRow wr g l)/\Hid (Chg (FiZ w.heap.size) w1 wr)/\Hid (Blk wr (w.heap.size+1) 134 (sA (s.turn s.op d1)))/\Hid (Blk wr (w.heap.size+3) 134 #[.slice none 0 0,.int .i64 0,.int .i64 0,.slice none 0 0,.slice none 0 0])) (fun x _=>m.nS - (intOf x).toNat)
    case atStart=>exact ⟨0,_,Nat.zero_le _,rfl,zI ⟨hL8.out,hR8.out⟩,C8,B28,B48⟩
    case round=>
     obtain ⟨i,l,hi,rfl,hl,CR,BR2,BR4⟩:=hrel
     rename World=>wr
     obtain ⟨e0,e1,e2,e3,e4,e5,e6,e7,e8,e9⟩:=HM.out wr CR.out;by_cases h1:i < m.nS
     ·by_cases h2:i < 31
      ·have hcl:=hl.out.2.cell (j:=i) (by rw[hl.out.1];exact h2);have hfr:=hl.out.2.frozen i;have hrow:=zI (hl.out.2.set (j:=i) (by rw[hl.out.1];exact h2) false);have hlen:Hid ((l.set i false).length=31):=by rw[List.length_set];exact hl.out.1
       have CR2:Hid (Chg (FiZ w.heap.size) w1 (wr.setCell ⟨g,i,none⟩ (.bool false))):=CR.out.setCell (.inr hgz) _;have BR22:=zI (BR2.out.far (p:=⟨g,i,none⟩) (by show w.heap.size+1 ≠ g;omega) (.bool false));have BR42:=zI (BR4.out.far (p:=⟨g,i,none⟩) (by show w.heap.size+3 ≠ g;omega) (.bool false));obtain ⟨cell,hcell⟩:∃ cell,cell=l[i]'(by rw[hl.out.1];exact h2):=⟨_,rfl⟩;rw[<-hcell] at hcl;clear hcell;obtain ⟨be,qe⟩:∃ be,((i:Int) ==(j:Int))=be:=⟨_,rfl⟩;have qeN:(i ==j)=be:=by rw[<-qe,Bool.eq_iff_iff,beq_iff_eq,beq_iff_eq];omega
       cases be with
       | true=>
        go_wp2_with fail
        go_roundw
        case rel=>exact ⟨i+1,l.set i false,by omega,by go_num,zI ⟨hlen.out,hrow.out⟩,CR2,BR22,BR42⟩
        case measure=>(simp[intOf]<;>omega)
       | false=>
        have HP:=zI (parents_any wr m X (HX.out wr CR.out));unfold mA at HP;go_wp2_with fail
        go_at_call 22
        refine HP.out.mono ?_;rintro e w10 ⟨PA,pc,rfl,hPR,hPC⟩;have hrw:=hl.out.2.chg hPC (fun h=>h);have hcl2:=hrw.cell (j:=i) (by rw[hl.out.1];exact h2);have hfr2:=hrw.frozen i;have hrow2:=zI (hrw.set (j:=i) (by rw[hl.out.1];exact h2) false);have CRa:=zI (Chg.trans CR.out hPC (fun _ _ h=>h.elim));have CRb:Hid (Chg (FiZ w.heap.size) w1 (w10.setCell ⟨g,i,none⟩ (.bool false))):=CRa.out.setCell (.inr hgz) _;have B2a:=zI (BR2.out.chg hPC (fun h=>h));have B4a:=zI (BR4.out.chg hPC (fun h=>h));have B2b:=zI (B2a.out.far (p:=⟨g,i,none⟩) (by show w.heap.size+1 ≠ g;omega) (.bool false));have B4b:=zI (B4a.out.far (p:=⟨g,i,none⟩) (by show w.heap.size+3 ≠ g;omega) (.bool false));have hrw2:=zI hrw;have HQ:=zI (is10_any w10 PA pc (par X) j i (by unfold par;rw[List.length_map];omega) hPR);obtain ⟨cell2,hcell2⟩:∃ cell,cell=l[i]'(by rw[hl.out.1];exact h2):=⟨_,rfl⟩;rw[<-hcell2] at hcl2;obtain ⟨bi,hbi⟩:∃ bi,bi=isF (par X) j i:=⟨_,rfl⟩;rw[<-hbi] at HQ;clear hcell2 hbi hrw hPR hPC hcl hfr e0 e1 e2 e3 e4 e5 e6 e7 e8 e9;go_wp2_with fail
        go_at_call 46
        refine HQ.out.mono ?_;rintro e w' ⟨rfl,rfl⟩;cases bi with
        | true=>
         go_wp2_with fail
         go_roundw
         case rel=>exact ⟨i+1,l.set i false,by omega,by go_num,zI ⟨hlen.out,hrow2.out⟩,CRb,B2b,B4b⟩
         case measure=>(simp[intOf]<;>omega)
        | false=>
         go_wp2_with fail
         go_roundw
         case rel=>exact ⟨i+1,l,by omega,by go_num,zI ⟨hl.out.1,hrw2.out⟩,CRa,B2a,B4a⟩
         case measure=>(simp[intOf]<;>omega)
      ·have di:decide ((i:Int) < 31)=false:=by rw[dF];omega
       obtain ⟨⟨f0,f1,f2,f3,f4⟩,ff⟩:=scells' BR2.out;obtain ⟨⟨r0,r1,r2,r3,r4⟩,rf⟩:=rcells BR4.out;have HQ:=zI (sum_any wr (some ⟨g,0,none⟩) c l (by rw[hl.out.1];omega) hl.out.2.rd);rw[hl.out.1] at HQ;have hsi:=zI (sum_in l hl.out.1);rw[hl.out.1] at hsi;obtain ⟨q,hq⟩:∃ q:Int,q=((sumUp l 31:Nat):Int):=⟨_,rfl⟩;rw[<-hq] at HQ hsi;clear hq;go_wp2_with fail
       go_at_call 118
       refine HQ.out.mono ?_;rintro e w' ⟨rfl,rfl⟩;go_wp2
       have hB4:=Blk.far BR4.out (p:=⟨w.heap.size+1,1,none⟩) (by show w.heap.size+3 ≠ w.heap.size+1;omega) (.int .i64 q);exact bodyPost_ret (results_cell_row rfl _ _ _ _ _ _ _ rfl (blk_st5 hB4 _ _ _ _ _).1 Tryz.underlying134 rfl (by kernel_rfl)) rfl ⟨⟨q,d1,rfl,hsi.out,hp1.out⟩,HZ.out _ (Chg.trans (CR.out.setCell (p:=⟨w.heap.size+1,1,none⟩) (.inl (.inl rfl)) _) (blk_st5 hB4 _ _ _ _ _).2 (fun i hi e=>.inr e))⟩
     ·obtain rfl:i=m.nS:=by omega
      obtain ⟨⟨f0,f1,f2,f3,f4⟩,ff⟩:=scells' BR2.out;obtain ⟨⟨r0,r1,r2,r3,r4⟩,rf⟩:=rcells BR4.out;have HQ:=zI (sum_any wr (some ⟨g,0,none⟩) c l (by rw[hl.out.1];omega) hl.out.2.rd);rw[hl.out.1] at HQ;have hsi:=zI (sum_in l hl.out.1);rw[hl.out.1] at hsi;obtain ⟨q,hq⟩:∃ q:Int,q=((sumUp l 31:Nat):Int):=⟨_,rfl⟩;rw[<-hq] at HQ hsi;clear hq;go_wp2_with fail
      go_at_call 118
      refine HQ.out.mono ?_;rintro e w' ⟨rfl,rfl⟩;go_wp2
      have hB4:=Blk.far BR4.out (p:=⟨w.heap.size+1,1,none⟩) (by show w.heap.size+3 ≠ w.heap.size+1;omega) (.int .i64 q);exact bodyPost_ret (results_cell_row rfl _ _ _ _ _ _ _ rfl (blk_st5 hB4 _ _ _ _ _).1 Tryz.underlying134 rfl (by kernel_rfl)) rfl ⟨⟨q,d1,rfl,hsi.out,hp1.out⟩,HZ.out _ (Chg.trans (CR.out.setCell (p:=⟨w.heap.size+1,1,none⟩) (.inl (.inl rfl)) _) (blk_st5 hB4 _ _ _ _ _).2 (fun i hi e=>.inr e))⟩
 | false=>
  obtain ⟨c,qc⟩:∃ c,inB18v n m.gu.length=c:=⟨_,rfl⟩;have HIK:=zI (fun n':KW w1=>kept_same (inB18 n'.w n m.gu.length qc));cases c with
  | false=>
   clear qc;have K4:=fun n:KW w1=>kept_cell e4 n
   have K6:=fun n:KW w1=>kept_cell e6 n
   have K7:=fun n:KW w1=>kept_cell e7 n
   have G1:=fun n:KW w1=>kept_cell g1 n
   go_enter Tryz.func92,Tryz.ntmps92;go_wp2_with fail
   rw[<-hw1];clear hw1;go_wp2_with fail
   refine wp_region_kept w1 (Chg.refl _ _) (by kernel_rfl) (by kernel_rfl) ?_;repeat (go_big_quiet_step (with_reducible exact HIK.out _))
   refine wpQuiet_nil ?_;rintro w4 ⟨n4,rfl⟩;have C4:Hid (Chg (FiZ w.heap.size) w1 n4.w):=n4.h.mono (fun _ _ h=>h.elim);obtain ⟨w5,hw5⟩:∃ w5,w5=n4.w:=⟨_,rfl⟩;have B2:Hid (Blk w5 (w.heap.size+1) 134 (sA s)):=by rw[hw5];exact H2.out.chg n4.h (fun h=>h)
   have B4:Hid (Blk w5 (w.heap.size+3) 134 #[.slice none 0 0,.int .i64 0,.int .i64 0,.slice none 0 0,.slice none 0 0]):=by rw[hw5];exact H4.out.chg n4.h (fun h=>h)
   rw[<-hw5] at C4 |-;clear hw5;obtain ⟨⟨f0,f1,f2,f3,f4⟩,ff⟩:=scells' B2.out;obtain ⟨⟨r0,r1,r2,r3,r4⟩,rf⟩:=rcells B4.out;go_wp2
   exact bodyPost_ret (results_cell_row rfl _ _ _ _ _ _ _ rfl (blk_st5 B4.out _ _ _ _ _).1 Tryz.underlying134 rfl (by kernel_rfl)) rfl ⟨⟨s.op,s.dn,rfl,hop.out,hdn.out⟩,HZ.out _ (Chg.trans C4.out (blk_st5 B4.out _ _ _ _ _).2 (fun i hi e=>.inr e))⟩
  | true=>
   obtain ⟨k,rfl,hk⟩:=inB18_yes qc;obtain ⟨x,hx⟩:∃ x,m.gu[k]?=some x:=⟨_,gG hk⟩;obtain ⟨b0,o0,hA,_,c0,c1,c2⟩:=guC_at (HX.out w1 (Chg.refl _ _)).mo.gu hx;rw[hA] at e6 hw1;rw[hA];have K4:=fun n:KW w1=>kept_cell e4 n
   have K6:=fun n:KW w1=>kept_cell e6 n
   have K7:=fun n:KW w1=>kept_cell e7 n
   have G1:=fun n:KW w1=>kept_cell g1 n
   have U0:=fun n:KW w1=>kept_cell c0 n
   have U1:=fun n:KW w1=>kept_cell c1 n
   have U2:=fun n:KW w1=>kept_cell c2 n
   obtain ⟨d,qd⟩:∃ d,inB18v x.stage m.nS=d:=⟨_,rfl⟩;have HJK:=zI (fun n':KW w1=>kept_same (inB18 n'.w x.stage m.nS qd));clear qc;replace hA:=zI hA;cases d with
   | false=>
    clear qd hx;go_enter Tryz.func92,Tryz.ntmps92;go_wp2_with fail
    rw[<-hw1];clear hw1;go_wp2_with fail
    refine wp_region_kept w1 (Chg.refl _ _) (by kernel_rfl) (by kernel_rfl) ?_;repeat (go_big_quiet_step (first | with_reducible exact HIK.out _ | with_reducible exact HJK.out _))
    refine wpQuiet_nil ?_;rintro w4 ⟨n4,rfl⟩;have C4:Hid (Chg (FiZ w.heap.size) w1 n4.w):=n4.h.mono (fun _ _ h=>h.elim);obtain ⟨w5,hw5⟩:∃ w5,w5=n4.w:=⟨_,rfl⟩;have B2:Hid (Blk w5 (w.heap.size+1) 134 (sA s)):=by rw[hw5];exact H2.out.chg n4.h (fun h=>h)
    have B4:Hid (Blk w5 (w.heap.size+3) 134 #[.slice none 0 0,.int .i64 0,.int .i64 0,.slice none 0 0,.slice none 0 0]):=by rw[hw5];exact H4.out.chg n4.h (fun h=>h)
    rw[<-hw5] at C4 |-;clear hw5;obtain ⟨⟨f0,f1,f2,f3,f4⟩,ff⟩:=scells' B2.out;obtain ⟨⟨r0,r1,r2,r3,r4⟩,rf⟩:=rcells B4.out;go_wp2
    exact bodyPost_ret (results_cell_row rfl _ _ _ _ _ _ _ rfl (blk_st5 B4.out _ _ _ _ _).1 Tryz.underlying134 rfl (by kernel_rfl)) rfl ⟨⟨s.op,s.dn,rfl,hop.out,hdn.out⟩,HZ.out _ (Chg.trans C4.out (blk_st5 B4.out _ _ _ _ _).2 (fun i hi e=>.inr e))⟩
   | true=>
    obtain ⟨j,hj,hj2⟩:=inB18_yes qd;replace hj:=zI hj;replace hx:=zI hx;clear qd;go_enter Tryz.func92,Tryz.ntmps92;go_wp2_with fail
    rw[<-hw1];clear hw1;go_wp2_with fail
    refine wp_region_kept w1 (Chg.refl _ _) (by kernel_rfl) (by kernel_rfl) ?_;repeat (go_big_quiet_step (first | with_reducible exact HIK.out _ | with_reducible exact HJK.out _))
    refine wpQuiet_nil ?_;rintro w4 ⟨n4,rfl⟩;have C4:Hid (Chg (FiZ w.heap.size) w1 n4.w):=n4.h.mono (fun _ _ h=>h.elim);obtain ⟨w5,hw5⟩:∃ w5,w5=n4.w:=⟨_,rfl⟩;have B2:Hid (Blk w5 (w.heap.size+1) 134 (sA s)):=by rw[hw5];exact H2.out.chg n4.h (fun h=>h)
    have B4:Hid (Blk w5 (w.heap.size+3) 134 #[.slice none 0 0,.int .i64 0,.int .i64 0,.slice none 0 0,.slice none 0 0]):=by rw[hw5];exact H4.out.chg n4.h (fun h=>h)
    rw[<-hw5] at C4 |-;clear hw5;clear K4 K6 K7 G1 HIK HJK U0 U1 U2;obtain ⟨-,-,-,-,-,-,ex,-,-,-⟩:=HM.out w5 C4.out;obtain ⟨b1,o1,hA1,_,cS,-,-⟩:=guC_at (HX.out w5 C4.out).mo.gu hx.out;rw[hA1] at ex;have hA2:b1=b0/\o1=o0:=by
     have h6:=hA.out;rw[hA1] at h6;injection h6 with h6;injection h6 with h7 h8 _;exact ⟨h7,h8⟩
    obtain ⟨rfl,rfl⟩:=hA2;obtain ⟨n0,n1⟩:=HN.out w5 C4.out;obtain ⟨⟨f0,f1,f2,f3,f4⟩,ff⟩:=scells' B2.out;rw[hj.out] at cS;clear hA1 c0 c1 c2 e4 e6 e7 g0 g1;go_wp2_with fail
    go_at_call 88
    refine (put14_any w5 s.op j true hop.out).mono ?_;rintro e w6 ⟨rfl,hC6⟩;have hp1:=zI (puN_inR s.op j true);obtain ⟨d1,hd1⟩:∃ d1,d1=puN s.op j true:=⟨_,rfl⟩;rw[<-hd1] at hp1 |-;clear hd1;have B2':=zI (B2.out.chg hC6 (fun h=>h));have B4':=zI (B4.out.chg hC6 (fun h=>h));have C6:=zI (Chg.trans C4.out hC6 (fun _ _ h=>h.elim));clear f0 f1 f2 f3 f4 ff n0 n1 hC6 ex cS;obtain ⟨⟨f0,f1,f2,f3,f4⟩,ff⟩:=scells' B2'.out;go_wp2_with fail
    obtain ⟨w7,hw7⟩:∃ w7,w7=w6.setCell ⟨w.heap.size+1,1,none⟩ (.int .i64 d1):=⟨_,rfl⟩;have B2'':Hid (Blk w7 (w.heap.size+1) 134 (sA (s.turn d1 s.dn))):=by
     have:=B2'.out.set 1 (.int .i64 d1);rw[hw7];show Blk _ _ _ _;simpa [sA,SC.turn] using this
    have B4'':Hid (Blk w7 (w.heap.size+3) 134 #[.slice none 0 0,.int .i64 0,.int .i64 0,.slice none 0 0,.slice none 0 0]):=by rw[hw7];exact B4'.out.far (by show w.heap.size+3 ≠ w.heap.size+1;omega) _
    have C7:Hid (Chg (FiZ w.heap.size) w1 w7):=by rw[hw7];exact C6.out.setCell (.inl (.inl rfl)) _
    rw[<-hw7];clear hw7 f0 f1 f2 f3 f4 ff B2' B4' B2 B4 C4 C6;go_at_call 117
    refine (inL_own w7 s.dn hdn.out).mono ?_;rintro e w8 ⟨v,rfl,hO,hC8⟩;obtain ⟨g,c,rfl,hg8,-,-,-⟩:=own_form hO (by omega);have hgw:w7.heap.size<=g:=(hO.lt g rfl).1;have hgz:w1.heap.size<=g:=Nat.le_trans C7.out.size hgw;have hR8:=zI (BRow.of_own hO);have hL8:Hid ((upTo (fun (i:Nat)=>hasB s.dn (i:Int)) 31).length=31):=upTo_len _ _;have C8:=zI (Chg.trans C7.out hC8 (fun _ _ h=>h.elim));have B28:=zI (B2''.out.chg hC8 (fun h=>h));have B48:=zI (B4''.out.chg hC8 (fun h=>h));clear hO hC8 B2'' B4'' C7;go_wp2_with fail
    go_loopw [12] (fun x wr=>∃ (i:Nat) (l:List Bool),i<=m.mi.length/\x=.int .i64 i/\Hid (l.length=31/\BRow wr g l)/\Hid (Chg (FiZ w.heap.size) w1 wr)/\Hid (Blk wr (w.heap.size+1) 134 (sA (s.turn d1 s.dn)))/\Hid (Blk wr (w.heap.size+3) 134 #[.slice none 0 0,.int .i64 0,.int .i64 0,.slice none 0 0,.slice none 0 0])) (fun x _=>m.mi.length - (intOf x).toNat)
    case atStart=>exact ⟨0,_,Nat.zero_le _,rfl,zI ⟨hL8.out,hR8.out⟩,C8,B28,B48⟩
    case round=>
     obtain ⟨i,l,hi,rfl,hl,CR,BR2,BR4⟩:=hrel
     rename World=>wr
     obtain ⟨e0,e1,e2,e3,e4,e5,e6,e7,e8,e9⟩:=HM.out wr CR.out;by_cases h1:i < m.mi.length
     ·by_cases h2:i < 31
      ·have hcl:=hl.out.2.cell (j:=i) (by rw[hl.out.1];exact h2);have hfr:=hl.out.2.frozen i;have hrow:=zI (hl.out.2.set (j:=i) (by rw[hl.out.1];exact h2) false);have hlen:Hid ((l.set i false).length=31):=by rw[List.length_set];exact hl.out.1
       have CR2:Hid (Chg (FiZ w.heap.size) w1 (wr.setCell ⟨g,i,none⟩ (.bool false))):=CR.out.setCell (.inr hgz) _;have BR22:=zI (BR2.out.far (p:=⟨g,i,none⟩) (by show w.heap.size+1 ≠ g;omega) (.bool false));have BR42:=zI (BR4.out.far (p:=⟨g,i,none⟩) (by show w.heap.size+3 ≠ g;omega) (.bool false));obtain ⟨cell,hcell⟩:∃ cell,cell=l[i]'(by rw[hl.out.1];exact h2):=⟨_,rfl⟩;rw[<-hcell] at hcl;clear hcell;obtain ⟨y,hy⟩:∃ y,m.mi[i]?=some y:=⟨_,gG h1⟩;obtain ⟨b2,o2,hA2,_,-,y1,-,-,-⟩:=miC_at (HX.out wr CR.out).mo.mi hy;rw[hA2] at e7;obtain ⟨be,qe⟩:∃ be,(y.stage ==(j:Int))=be:=⟨_,rfl⟩;clear hy hA2;cases be with
       | true=>
        go_wp2_with fail
        go_roundw
        case rel=>exact ⟨i+1,l.set i false,by omega,by go_num,zI ⟨hlen.out,hrow.out⟩,CR2,BR22,BR42⟩
        case measure=>(simp[intOf]<;>omega)
       | false=>
        go_wp2_with fail
        go_roundw
        case rel=>exact ⟨i+1,l,by omega,by go_num,hl,CR,BR2,BR4⟩
        case measure=>(simp[intOf]<;>omega)
      ·have di:decide ((i:Int) < 31)=false:=by rw[dF];omega
       obtain ⟨⟨f0,f1,f2,f3,f4⟩,ff⟩:=scells' BR2.out;obtain ⟨⟨r0,r1,r2,r3,r4⟩,rf⟩:=rcells BR4.out;have HQ:=zI (sum_any wr (some ⟨g,0,none⟩) c l (by rw[hl.out.1];omega) hl.out.2.rd);rw[hl.out.1] at HQ;have hsi:=zI (sum_in l hl.out.1);rw[hl.out.1] at hsi;obtain ⟨q,hq⟩:∃ q:Int,q=((sumUp l 31:Nat):Int):=⟨_,rfl⟩;rw[<-hq] at HQ hsi;clear hq;go_wp2_with fail
       go_at_call 118
       refine HQ.out.mono ?_;rintro e w' ⟨rfl,rfl⟩;go_wp2
       have hB4:=Blk.far BR4.out (p:=⟨w.heap.size+1,2,none⟩) (by show w.heap.size+3 ≠ w.heap.size+1;omega) (.int .i64 q);exact bodyPost_ret (results_cell_row rfl _ _ _ _ _ _ _ rfl (blk_st5 hB4 _ _ _ _ _).1 Tryz.underlying134 rfl (by kernel_rfl)) rfl ⟨⟨d1,q,rfl,hp1.out,hsi.out⟩,HZ.out _ (Chg.trans (CR.out.setCell (p:=⟨w.heap.size+1,2,none⟩) (.inl (.inl rfl)) _) (blk_st5 hB4 _ _ _ _ _).2 (fun i hi e=>.inr e))⟩
     ·obtain rfl:i=m.mi.length:=by omega
      obtain ⟨⟨f0,f1,f2,f3,f4⟩,ff⟩:=scells' BR2.out;obtain ⟨⟨r0,r1,r2,r3,r4⟩,rf⟩:=rcells BR4.out;have HQ:=zI (sum_any wr (some ⟨g,0,none⟩) c l (by rw[hl.out.1];omega) hl.out.2.rd);rw[hl.out.1] at HQ;have hsi:=zI (sum_in l hl.out.1);rw[hl.out.1] at hsi;obtain ⟨q,hq⟩:∃ q:Int,q=((sumUp l 31:Nat):Int):=⟨_,rfl⟩;rw[<-hq] at HQ hsi;clear hq;go_wp2_with fail
      go_at_call 118
      refine HQ.out.mono ?_;rintro e w' ⟨rfl,rfl⟩;go_wp2
      have hB4:=Blk.far BR4.out (p:=⟨w.heap.size+1,2,none⟩) (by show w.heap.size+3 ≠ w.heap.size+1;omega) (.int .i64 q);exact bodyPost_ret (results_cell_row rfl _ _ _ _ _ _ _ rfl (blk_st5 hB4 _ _ _ _ _).1 Tryz.underlying134 rfl (by kernel_rfl)) rfl ⟨⟨d1,q,rfl,hp1.out,hsi.out⟩,HZ.out _ (Chg.trans (CR.out.setCell (p:=⟨w.heap.size+1,2,none⟩) (.inl (.inl rfl)) _) (blk_st5 hB4 _ _ _ _ _).2 (fun i hi e=>.inr e))⟩
end
end Go.Proofs.YthohgagkjnbkbaaGreat
