/- FragTrue, part 9: FrHold26 FrAtom. Each theorem says what a function does, or a plain fact, under its own premises alone. -/
import Derived.Test.YthohgagkjnbkbaaGreatP8
set_option maxRecDepth 100000
set_option maxHeartbeats 16000000
namespace Go.Proofs.YthohgagkjnbkbaaGreat
section
open Go.RowKit
def isC (x:Nm.Inst):Bool:=decide (3<=x.op) && decide (x.op<=8)
def tuX (cs:List Int) (z:ZC) (x:Nm.Inst):Nm.Inst:=if isC x=true then ⟨x.op,-1,plI cs x.la x.lnum z.cl,-1,plI cs x.ra x.rnum z.cl,x.n,x.user⟩ else x
theorem inst_info:(Tryz.prog.info? 83).map (fun i=>(i.zero,i.size,i.bytes))=some (some (.agg #[.int .i64 0,.int .i64 0,.int .i64 0,.int .i64 0,.int .i64 0,.int .i64 0,.int .i64 0]),7,56):=by kernel_rfl
def zhB (l:List Nm.Inst) (cs:List Int) (z:ZC) (s:SC) (vs:List Int):Bool:=knB l cs z && hdB (l.map (tuX cs z)) s vs
def zhE (l:List Nm.Inst) (cs:List Int) (z:ZC) (s:SC):Int:=if knB l cs z=true then hdE (l.map (tuX cs z)) s else 17
theorem tuUp_succ {cs:List Int} {z:ZC} {l:List Nm.Inst} {j:Nat} {x:Nm.Inst} (h:l[j]?=some x):(l.take (j+1)).map (tuX cs z)=(l.take j).map (tuX cs z)++[tuX cs z x]:=by
 obtain ⟨hk,rfl⟩:=List.getElem?_eq_some_iff.1 h;rw[List.take_succ_eq_append_getElem hk,List.map_append];rfl
theorem ins_snoc (l:List Nm.Inst) (x:Nm.Inst):(l++[x]).flatMap instV7=l.flatMap instV7++instV7 x:=by simp
theorem app7 {w0 wr w':World} {v:Value} {t:TypeId} {n sz:Nat} {xs:List Value} (ho:wr.ownsRow w0.heap.size t sz v n xs) (hC:Chg (fun _=>False) w0 wr) (o:Obj) (hg:(wr.alloc o).grownBy w' v.ownBlock):Chg (fun _=>False) w0 w':=
 Chg.trans hC (Chg.grown (S:=fun k=>v.ownBlock=some k) ((Chg.refl _ wr).alloc o) hg (fun k hk=>.inl hk)) (fun i hi e=>by have:=(ho.lt i e).1;omega)
structure TwoC (w3 w4 w5:World) (g:Nat) (cs:Array Value) (v:Value) (n:Nat) (xs:List Value):Prop where
 c:Chg (fun _=>False) w3 w5
 b:Blk w5 g 83 cs
 o:w5.ownsRow w3.heap.size 83 7 v n xs
 s:w5.heap.size=w4.heap.size
theorem TwoC.mk2 {w3 w4:World} {g i j:Nat} {cs:Array Value} {v u u':Value} {n:Nat} {xs:List Value} (hc:Chg (fun _=>False) w3 w4) (hb:Blk w4 g 83 cs) (ho:w4.ownsRow w3.heap.size 83 7 v n xs) (hg:w3.heap.size<=g) (hn:v.ownBlock ≠ some g):TwoC w3 w4 ((w4.setCell ⟨g,i,none⟩ u).setCell ⟨g,j,none⟩ u') g ((cs.setIfInBounds i u).setIfInBounds j u') v n xs:=
 ⟨(hc.setCell (.inr hg) _).setCell (.inr hg) _,(hb.set i u).set j u',own_set (own_set ho hn _) hn _,by simp⟩
theorem blk_size {w:World} {t:TypeId} {cs:Array Value} {k:Nat} (h:w.heap.size=k):Blk (w.alloc (.cells cs t)) k t cs:=by subst h;exact Blk.new w t cs
theorem holds26_any (w:World) (A:Option Addr) (c:Nat) (l:List Nm.Inst) (z:ZC) (D:Option Addr) (d:Nat) (q:List Int) (s:SC) (vs:List Int) (hl:l.length<=100000) (hr:Rd w w.heap.size A (l.flatMap instV7)) (hz:ZOK w z) (hQ:Rd w w.heap.size D (intsV q)) (hq:q.length<=100000) (hS:SOK w s) (hV:VOK w s vs):
  Calls Tryz.prog 64 #[.slice A l.length c,.agg (zA z),.slice D q.length d,.agg (sA s)] w fun e w'=>e=.returned (.tuple #[.bool (zhB l (srt q) z s vs),.int .i64 (zhE l (srt q) z s)])/\Chg (fun _=>False) w w':=by
 obtain ⟨h1,h2⟩:=cells2 w 88 134 (zA z) (sA s);have C0:=zI (chg2 w (.cells (zA z) 88) (.cells (sA s) 134));have HT:=zI (fun (w':World) (h:Chg (fun _=>False) w w') (a n:Int)=>place_any w' z D d q a n (hz.later h) (hQ.later h (fun _ h=>h.elim)) hq);have HK:=zI (knows_any _ A c l z D d q hl (hr.later C0.out (fun _ h=>h.elim)) (hz.later C0.out) (hQ.later C0.out (fun _ h=>h.elim)) hq);have HH:=zI (fun (w':World) (h:Chg (fun _=>False) w w') (B:Option Addr) (b:Nat) (l':List Nm.Inst) (hl':l'.length<=100000) (hB:Rd w' w'.heap.size B (l'.flatMap instV7))=>holds16_any w' B b l' s vs hl' hB (hS.later h) (hV.later h));obtain ⟨cs,hcs⟩:∃ cs,cs=srt q:=⟨_,rfl⟩;rw[<-hcs] at HT HK |-;obtain ⟨w2,hw2⟩:∃ w2,w2=(w.alloc (.cells (zA z) 88)).alloc (.cells (sA s) 134):=⟨_,rfl⟩;have fz0:w2.cell? ⟨w.heap.size,0,none⟩=some (.slice z.cA z.cl.length z.cC):=by rw[hw2,h1.cell];rfl
 have fz1:w2.cell? ⟨w.heap.size,1,none⟩=some (.slice z.gA z.gl.length z.gC):=by rw[hw2,h1.cell];rfl
 rw[<-hw2] at C0 h1 h2 HK;have h2':=scells h2;replace h1:=zI h1;replace h2:=zI h2;have HR:=zI (hr.later C0.out (fun _ h=>h.elim));obtain ⟨i,hi,hz0,hz1,hz2⟩:=info_3 inst_info;cases hkn:knB l cs z with
 | false=>
  have hv:Hid (zhB l cs z s vs=false):=by show _=_;unfold zhB;rw[hkn];rfl
  have he:Hid (zhE l cs z s=17):=by show _=_;unfold zhE;rw[hkn];rfl
  rw[hkn] at HK;rw[hw2] at fz0 fz1;unfold zA at HK;unfold zA sA at hw2 fz0 fz1 |-;clear hr hcs hz hQ hS hV h2' HT HH hkn;go_enter Tryz.func64,Tryz.ntmps64;go_wp2_with (go_at_call 96;rw[<-hw2];refine HK.out.mono ?_;rintro e w3 ⟨rfl,hC3⟩;have C3:=zI (Ct C0.out hC3);clear hC3 HK fz0 fz1)
  go_ret2
  exact ⟨by rw[hv.out,he.out];rfl,C3.out⟩
 | true=>
  have hv:Hid (zhB l cs z s vs=hdB (l.map (tuX cs z)) s vs):=by show _=_;unfold zhB;rw[hkn];rfl
  have he:Hid (zhE l cs z s=hdE (l.map (tuX cs z)) s):=by show _=_;unfold zhE;rw[hkn];rfl
  rw[hkn] at HK;rw[hw2] at fz0 fz1;unfold sA at HH;unfold zA at HT;unfold zA at HK;unfold zA sA at hw2 fz0 fz1 |-;clear hr hcs hz hQ hS hV h2' hkn;go_enter Tryz.func64,Tryz.ntmps64;go_wp2_with (go_at_call 96;rw[<-hw2];refine HK.out.mono ?_;rintro e w3 ⟨rfl,hC3⟩;have C3:=zI (Ct C0.out hC3);have h13:=zI (h1.out.chg hC3 (fun h=>h));have h23:=zI (h2.out.chg hC3 (fun h=>h));have HR3:=zI (HR.out.later hC3 (fun _ h=>h.elim));clear hC3 HK fz0 fz1 h1 h2 HR hw2 C0)
  go_loopw [11,10,12] (fun x v _ wr=>∃ j:Nat,j<=l.length/\x=.int .i64 j/\Hid (wr.ownsRow w3.heap.size 83 7 v j (((l.take j).map (tuX cs z)).flatMap instV7))/\Hid (Chg (fun _=>False) w3 wr)) (fun x _ _ _=>l.length - (intOf x).toNat)
  case atStart=>exact ⟨0,Nat.zero_le _,rfl,zI (World.ownsRow_nil _ _ _ _),Chg.refl _ _⟩
  case round=>
   obtain ⟨j,hj,rfl,hO,hC⟩:=hrel;by_cases hlt:j < l.length
   ·obtain ⟨x,hx⟩:∃ x,l[j]?=some x:=⟨_,gG hlt⟩;have hs:=zI (tuUp_succ (cs:=cs) (z:=z) hx);obtain ⟨b0,o0,rfl,hb0,c0,c1,c2,c3,c4,c5,c6⟩:=ins_at (HR3.out.later hC.out (fun _ h=>h.elim)) hx;have hbz:=h13.out.chg hC.out (fun h=>h);have f0:wr.cell? ⟨w.heap.size,0,none⟩=some (.slice z.cA z.cl.length z.cC):=by rw[hbz.cell];rfl
    have f1:wr.cell? ⟨w.heap.size,1,none⟩=some (.slice z.gA z.gl.length z.gC):=by rw[hbz.cell];rfl
    clear hbz hx;have hn:=Blk.new wr 83 (iA x);obtain ⟨g0,g1,g2,g3,g4,g5,g6⟩:=icells hn;have hC2:=zI (hC.out.alloc (.cells (iA x) 83));have hO2:=zI (hO.out.alloc (.cells (iA x) 83));have f0':=kal (o:=.cells (iA x) 83) f0;have f1':=kal (o:=.cells (iA x) 83) f1;unfold iA at hn g0 g1 g2 g3 g4 g5 g6 f0' f1' hC2 hO2;replace hn:=zI hn;have hO0:=hO;clear hO;by_cases hcx:isC x=true
    ·have hs2:Hid (tuX cs z x=⟨x.op,-1,plI cs x.la x.lnum z.cl,-1,plI cs x.ra x.rnum z.cl,x.n,x.user⟩):=by show _=_;unfold tuX;rw[if_pos hcx]
     have d3:decide (3<=x.op)=true:=by simp only[isC,Bool.and_eq_true] at hcx;exact hcx.1
     have d8:decide (x.op<=8)=true:=by simp only[isC,Bool.and_eq_true] at hcx;exact hcx.2
     clear hcx;obtain ⟨pa,hpa⟩:∃ pa,pa=plI cs x.la x.lnum z.cl:=⟨_,rfl⟩;obtain ⟨pb,hpb⟩:∃ pb,pb=plI cs x.ra x.rnum z.cl:=⟨_,rfl⟩;have HL:=zI (HT.out _ (Ct C3.out hC2.out) x.la x.lnum);have HRR:=zI (fun (w':World) (h:Chg (fun _=>False) w w')=>HT.out w' h x.ra x.rnum);rw[<-hpa] at HL hs2;rw[<-hpb] at HRR hs2;unfold vA at HL HRR;clear hpa hpb;have hne:w.heap.size ≠ wr.heap.size:=by have:=hC.out.size;have:=h13.out.lt;omega
     have hne':wr.heap.size ≠ w.heap.size:=fun h=>hne h.symm
     have hg3:=hC.out.size;have hnb:u10.ownBlock ≠ some wr.heap.size:=fun h=>by have:=own_lt hO0.out _ h;omega
     go_wp2_with (first
      | (go_at_call 97;refine HL.out.mono ?_;rintro e w4 ⟨rfl,hC4⟩;have T4:=zI (TwoC.mk2 (i:=1) (j:=2) (u:=.int .i64 (-1)) (u':=.int .i64 pa) (Ct hC2.out hC4) (hn.out.chg hC4 (fun h=>h)) (own_chg hO2.out hC4 (fun _ _ h=>h)) hg3 hnb);have n4:=hn.out.chg hC4 (fun h=>h);have k1:=n4.cell 1;have k2:=n4.cell 2;have k3:=n4.cell 3;have k4:=n4.cell 4;simp only[List.getElem?_toArray,List.getElem?_cons_zero,List.getElem?_cons_succ] at k1 k2 k3 k4;have q1:=n4.frozen 1;have q2:=n4.frozen 2;have e0:=keep_cell hC4 (fun _ h=>h) f0';have e1:=keep_cell hC4 (fun _ h=>h) f1';clear HL hC4 n4 f0 f1 f0' f1' c0 c1 c2 c3 c4 c5 c6 g0 g1 g2 g3 g4 g5 g6)
      | (go_at_call 97;clear k1 k2 k3 k4 q1 q2 e0 e1;refine (HRR.out _ (Ct C3.out T4.out.c)).mono ?_;rintro e w6 ⟨rfl,hC6⟩;have T6:=zI (TwoC.mk2 (i:=3) (j:=4) (u:=.int .i64 (-1)) (u':=.int .i64 pb) (Ct T4.out.c hC6) (T4.out.b.chg hC6 (fun h=>h)) (own_chg T4.out.o hC6 (fun _ _ h=>h)) hg3 hnb);have n6:=T4.out.b.chg hC6 (fun h=>h);have k0:=n6.cell 0;have k1:=n6.cell 1;have k2:=n6.cell 2;have k3:=n6.cell 3;have k4:=n6.cell 4;have k5:=n6.cell 5;have k6:=n6.cell 6;simp at k0 k1 k2 k3 k4 k5 k6;have q3:=n6.frozen 3;have q4:=n6.frozen 4;clear HRR hC6 n6 T4)
      | (at_builtin;refine wpList_append_lies _ rfl (.tmp 50) (.tmp 52) 33 rfl w3.heap.size 83 i _ 7 56 Tryz.underlying33 hi hz0 hz1 hz2 rfl (by omega) u10 j (((l.take j).map (tuX cs z)).flatMap instV7) rfl (by exact T6.out.o.alloc _) ⟨w6.heap.size,0,none⟩ 1 1 (instV7 ⟨x.op,-1,pa,-1,pb,x.n,x.user⟩) rfl rfl (by exact all_new (blk_size T6.out.s)) (by intro u hu;simp[instV7] at hu;rcases hu with rfl | rfl | rfl | rfl | rfl | rfl | rfl<;>rfl) (by omega) (by unfold maxLen;omega) (by omega) (by have:=T6.out.c.size;have:=T6.out.s;simp;omega) (w6.heap.size+1) (by simp) ?_;intro g cap w9 hown9 hg9 hat9 hlt9;have HO9:=zI hown9;have HC9:=zI (app7 T6.out.o T6.out.c _ hg9);clear hown9 hg9 hat9 hlt9 T6))
     go_roundw
     case rel=>exact ⟨j+1,by omega,by go_num,zI (by rw[hs.out,hs2.out,ins_snoc];exact HO9.out),HC9⟩
     case measure=>(simp[intOf]<;>omega)
    ·have hs2:Hid (tuX cs z x=x):=by show _=_;unfold tuX;rw[if_neg hcx]
     have h38:x.op < 3\/8 < x.op:=by
      simp only[isC,Bool.and_eq_true,decide_eq_true_eq] at hcx;omega
     clear hcx;rcases h38 with h38 | h38
     ·have d3:decide (3<=x.op)=false:=by rw[dF];omega
      clear h38;go_wp2_with (at_builtin;refine wpList_append_lies _ rfl (.tmp 50) (.tmp 52) 33 rfl w3.heap.size 83 i _ 7 56 Tryz.underlying33 hi hz0 hz1 hz2 rfl (by omega) u10 j (((l.take j).map (tuX cs z)).flatMap instV7) rfl (by exact hO2.out.alloc _) ⟨(wr.heap.size+1),0,none⟩ 1 1 (instV7 x) rfl rfl (by exact all_new (blk_new2 wr _ 83 (iA x))) (by intro u hu;simp[instV7] at hu;rcases hu with rfl | rfl | rfl | rfl | rfl | rfl | rfl<;>rfl) (by omega) (by unfold maxLen;omega) (by omega) (by have:=hC.out.size;simp;omega) ((wr.heap.size+1)+1) (by simp) ?_;intro g cap w9 hown9 hg9 hat9 hlt9;have HO9:=zI hown9;have HC9:=zI (app7 hO2.out hC2.out _ hg9);clear hown9 hg9 hat9 hlt9)
      go_roundw
      case rel=>exact ⟨j+1,by omega,by go_num,zI (by rw[hs.out,hs2.out,ins_snoc];exact HO9.out),HC9⟩
      case measure=>(simp[intOf]<;>omega)
     ·have d3:decide (3<=x.op)=true:=by rw[dT];omega
      have d8:decide (x.op<=8)=false:=by rw[dF];omega
      clear h38;go_wp2_with (at_builtin;refine wpList_append_lies _ rfl (.tmp 50) (.tmp 52) 33 rfl w3.heap.size 83 i _ 7 56 Tryz.underlying33 hi hz0 hz1 hz2 rfl (by omega) u10 j (((l.take j).map (tuX cs z)).flatMap instV7) rfl (by exact hO2.out.alloc _) ⟨(wr.heap.size+1),0,none⟩ 1 1 (instV7 x) rfl rfl (by exact all_new (blk_new2 wr _ 83 (iA x))) (by intro u hu;simp[instV7] at hu;rcases hu with rfl | rfl | rfl | rfl | rfl | rfl | rfl<;>rfl) (by omega) (by unfold maxLen;omega) (by omega) (by have:=hC.out.size;simp;omega) ((wr.heap.size+1)+1) (by simp) ?_;intro g cap w9 hown9 hg9 hat9 hlt9;have HO9:=zI hown9;have HC9:=zI (app7 hO2.out hC2.out _ hg9);clear hown9 hg9 hat9 hlt9)
      go_roundw
      case rel=>exact ⟨j+1,by omega,by go_num,zI (by rw[hs.out,hs2.out,ins_snoc];exact HO9.out),HC9⟩
      case measure=>(simp[intOf]<;>omega)
   ·obtain rfl:j=l.length:=by omega
    obtain ⟨B,b,rfl,hqc,hcm⟩:=own_slice hO.out;have hB:Rd wr wr.heap.size B ((l.map (tuX cs z)).flatMap instV7):=by have:=own_rdN hO.out;rwa [List.take_length] at this
    have C9:=zI (Ct C3.out hC.out);have hml:(l.map (tuX cs z)).length=l.length:=by simp
    have HH9:=zI (HH.out wr C9.out B b (l.map (tuX cs z)) (by rw[hml];exact hl) hB);rw[hml] at HH9;obtain ⟨k0,k1,k2,k3,k4⟩:=scells (h23.out.chg hC.out (fun h=>h));obtain ⟨r1,hr1⟩:∃ r1,r1=hdB (l.map (tuX cs z)) s vs:=⟨_,rfl⟩;obtain ⟨r2,hr2⟩:∃ r2,r2=hdE (l.map (tuX cs z)) s:=⟨_,rfl⟩;rw[<-hr1] at hv HH9;rw[<-hr2] at he HH9;clear hqc hcm hB hml hO hr1 hr2 HH HT;go_wp2_with (go_at_call 98;refine HH9.out.mono ?_;rintro e w9 ⟨rfl,hC9⟩;have C10:=zI (Ct C9.out hC9);clear hC9 HH9)
    go_ret2
    exact ⟨by rw[hv.out,he.out];rfl,C10.out⟩
structure MOK (w:World) (m:MC):Prop where
 ro:Rd w w.heap.size m.aR (m.ro.flatMap roC)
 ev:Rd w w.heap.size m.aE (m.ev.flatMap evC)
 gu:Rd w w.heap.size m.aG (m.gu.flatMap guC)
 mi:Rd w w.heap.size m.aM (m.mi.flatMap miC)
 so:Rd w w.heap.size m.aD (m.so.flatMap soC)
 lens:m.nA<=maxLen/\m.nI<=maxLen/\m.nU<=maxLen/\m.ro.length<=maxLen/\m.nS<=maxLen/\m.ev.length<=maxLen/\m.gu.length<=maxLen/\m.mi.length<=maxLen/\m.so.length<=maxLen/\m.nO<=maxLen
 usR:∀ x ∈ m.ro,inR x.us
theorem MOK.later {w w':World} {m:MC} (h:MOK w m) (hc:Chg (fun _=>False) w w'):MOK w' m:=
 ⟨h.ro.later hc (fun _ h=>h.elim),h.ev.later hc (fun _ h=>h.elim),h.gu.later hc (fun _ h=>h.elim),h.mi.later hc (fun _ h=>h.elim),h.so.later hc (fun _ h=>h.elim),h.lens,h.usR⟩
theorem MOK.good {w:World} {m:MC} {s:SC} (h:MOK w m) (hs:SOK w s):Good w m s:=
 ⟨h.ro,h.ev,h.gu,h.mi,h.so,by rw[flat_inC];exact hs.did,by rw[flat_inC];exact hs.cnt,h.lens,⟨by have:=hs.few.1;unfold maxLen;omega,by have:=hs.few.2.1;unfold maxLen;omega,by have:=hs.few.2.2;unfold maxLen;omega⟩,hs.opR,hs.dnR,h.usR,hs.didR⟩
def stN (n:NC):SC:=⟨none,0,0,n.op,n.dn,none,n.did,0,none,n.cnt,0⟩
theorem plainB_congr {m:MC} {s t:SC} {x:Nm.Inst} (h1:s.op=t.op) (h2:s.dn=t.dn) (h3:s.did=t.did) (h4:s.cnt=t.cnt):plainB m s x=plainB m t x:=by
 obtain ⟨a1,a2,a3,a4,a5,a6,a7,a8,a9,a10,a11⟩:=s;obtain ⟨b1,b2,b3,b4,b5,b6,b7,b8,b9,b10,b11⟩:=t;simp only at h1 h2 h3 h4;subst h1;subst h2;subst h3;subst h4;rfl
def s0:SC:=⟨none,0,0,0,0,none,[],0,none,[],0⟩
theorem s0_ok (w:World):SOK w s0/\VOK w s0 []:=⟨⟨fun h=>by simp[s0,intsV] at h,fun h=>by simp[s0,intsV] at h,by simp[s0],by unfold inR s0;simp,by unfold inR s0;simp,by simp[s0],by simp[s0]⟩,rfl,fun h=>by simp[intsV] at h⟩
def atB (m:MC) (cs:List Int) (n:NC) (x:Nm.Inst):Bool:=if cpsB x.op=true then zhB [x] cs n.z s0 [] else plainB m (stN n) x
theorem one_rd (w:World) (x:Nm.Inst):Rd (w.alloc (.cells (iA x) 83)) (w.alloc (.cells (iA x) 83)).heap.size (some ⟨w.heap.size,0,none⟩) ([x].flatMap instV7):=by
 have e:[x].flatMap instV7=instV7 x:=by simp
 rw[e];exact fun _=>⟨_,rfl,by simp,all_new (Blk.new w 83 (iA x))⟩
theorem at33_any (w:World) (m:MC) (D:Option Addr) (d:Nat) (q:List Int) (n:NC) (x:Nm.Inst) (hM:MOK w m) (hnU:m.nU<=1000) (hQ:Rd w w.heap.size D (intsV q)) (hq:q.length<=100000) (hN:NOK w n):Calls Tryz.prog 32 #[.agg (mA m),.slice D q.length d,.agg (nA n),.agg (iA x)] w fun e w'=>e=.returned (.bool (atB m (srt q) n x))/\Chg (fun _=>False) w w':=by
 obtain ⟨h1,h2,h3⟩:=cells3 w 32 90 83 (mA m) (nA n) (iA x);have C0:=zI (chg3 w (.cells (mA m) 32) (.cells (nA n) 90) (.cells (iA x) 83));have HC:=zI (compares_any (((w.alloc (.cells (mA m) 32)).alloc (.cells (nA n) 90)).alloc (.cells (iA x) 83)) x);obtain ⟨w1,hw1⟩:∃ w1,w1=((w.alloc (.cells (mA m) 32)).alloc (.cells (nA n) 90)).alloc (.cells (iA x) 83):=⟨_,rfl⟩;have i7:=icells h3;rw[<-hw1] at h1 h2 h3 C0 HC;have HM:=zI (fun (w':World) (h:Chg (fun _=>False) w1 w')=>mcells (h1.chg h (fun h=>h)));have HNc:=zI (fun (w':World) (h:Chg (fun _=>False) w1 w')=>ncells (h2.chg h (fun h=>h)));have HI:=zI (fun (w':World) (h:Chg (fun _=>False) w1 w')=>icells (h3.chg h (fun h=>h)));obtain ⟨g0,g1,g2,g3,g4,g5,g6⟩:=i7;cases hcp:cpsB x.op with
 | true=>
  have hv:Hid (atB m (srt q) n x=zhB [x] (srt q) n.z s0 []):=by show _=_;unfold atB;rw[if_pos hcp]
  rw[hcp] at HC;have HH:=zI (fun (w':World) (h:Chg (fun _=>False) w w') (B:Option Addr) (hB:Rd w' w'.heap.size B ([x].flatMap instV7))=>holds26_any w' B 1 [x] n.z D d q s0 [] (by simp) hB (hN.later h).z (hQ.later h (fun _ h=>h.elim)) hq (s0_ok w').1 (s0_ok w').2);obtain ⟨b,hb⟩:∃ b,b=zhB [x] (srt q) n.z s0 []:=⟨_,rfl⟩;obtain ⟨er,her⟩:∃ er,er=zhE [x] (srt q) n.z s0:=⟨_,rfl⟩;rw[<-hb] at HH hv;rw[<-her] at HH;unfold zA sA s0 at HH;simp only[List.length_nil,List.length_singleton] at HH;clear hb her hcp h1 h2 h3 hM hQ hN;unfold iA at HC;unfold mA nA iA at hw1 g0 g1 g2 g3 g4 g5 g6 |-;go_enter Tryz.func32,Tryz.ntmps32;go_wp2_with (first
   | (go_at_call 63;rw[<-hw1];refine HC.out.mono ?_;rintro e w2 ⟨rfl,hC2⟩;have C2:=zI hC2;obtain ⟨k0,k1,k2,k3,k4,k5,k6⟩:=HI.out w2 hC2;obtain ⟨j0,j1,j2,j3,j4,j5⟩:=HNc.out w2 hC2;have j0':=kal (o:=.cells #[.int .i64 x.op,.int .i64 x.la,.int .i64 x.lnum,.int .i64 x.ra,.int .i64 x.rnum,.int .i64 x.n,.int .i64 x.user] 83) j0;have j1':=kal (o:=.cells #[.int .i64 x.op,.int .i64 x.la,.int .i64 x.lnum,.int .i64 x.ra,.int .i64 x.rnum,.int .i64 x.n,.int .i64 x.user] 83) j1;clear hC2 HC g0 g1 g2 g3 g4 g5 g6 hw1)
   | (go_at_call 64;have hB:=one_rd w2 x;have C3:=(Ct C0.out C2.out).alloc (.cells (iA x) 83);have HX:=HH.out _ C3 _ hB;unfold iA at HX C3;refine HX.mono ?_;rintro e w4 ⟨rfl,hC4⟩;have C4:=zI (Ct C3 hC4);clear hC4 HX C3 hB k0 k1 k2 k3 k4 k5 k6 j0 j1 j2 j3 j4 j5 j0' j1'))
  go_ret;exact ⟨by rw[hv.out];rfl,C4.out⟩
 | false=>
  have hv:Hid (atB m (srt q) n x=plainB m (stN n) x):=by show _=_;unfold atB;rw[if_neg (by rw[hcp];exact Bool.false_ne_true)]
  rw[hcp] at HC;have HS:=zI (fun (w':World) (h:Chg (fun _=>False) w w')=>status_any w' n (hN.later h));obtain ⟨b,hb⟩:∃ b,b=plainB m (stN n) x:=⟨_,rfl⟩;have HP:=zI (fun (w':World) (h:Chg (fun _=>False) w w') (s:SC) (hs:SOK w' s) (e1:s.op=n.op) (e2:s.dn=n.dn) (e3:s.did=n.did) (e4:s.cnt=n.cnt)=>(show Calls Tryz.prog 65 #[.agg (mA m),.agg (sA s),.agg (iA x)] w' fun e w''=>e=.returned (.bool b)/\Chg (fun _=>False) w' w'' from by
   have:=plain_any w' m s x ((hM.later h).good hs) hnU;rw[plainB_congr (t:=stN n) e1 e2 e3 e4,<-hb] at this;exact this))
  rw[<-hb] at hv;clear hb hcp h1 h2 h3 hM hQ hN;unfold iA at HC;unfold nA at HS;unfold mA iA at HP;unfold mA nA iA at hw1 g0 g1 g2 g3 g4 g5 g6 |-;go_enter Tryz.func32,Tryz.ntmps32;go_wp2_with (go_at_call 63;rw[<-hw1];refine HC.out.mono ?_;rintro e w2 ⟨rfl,hC2⟩;have C2:=zI hC2;clear hC2 HC g0 g1 g2 g3 g4 g5 g6 hw1)
  refine region_sp (by kernel_rfl) [some 24,some 25,some 26,some 27,some 28,some 8] [24,25,26,27,28,8] [.is (.agg #[.slice m.aA m.nA m.cA,.slice m.aI m.nI m.cI,.slice m.aU m.nU m.cU,.slice m.aR m.ro.length m.cR,.slice m.aS m.nS m.cS,.slice m.aE m.ev.length m.cE,.slice m.aG m.gu.length m.cG,.slice m.aM m.mi.length m.cM,.slice m.aD m.so.length m.cD,.slice m.aO m.nO m.cO]),.is (.agg #[.slice n.z.cA n.z.cl.length n.z.cC,.slice n.z.gA n.z.gl.length n.z.gC,.int .i64 n.op,.int .i64 n.dn,.slice n.aD n.did.length n.cD,.slice n.aC n.cnt.length n.cC]),.su (fun v w'=>∃ s:SC,v=.agg (sA s)/\SOK w' s/\s.op=n.op/\s.dn=n.dn/\s.did=n.did/\s.cnt=n.cnt),.is (.agg #[.int .i64 x.op,.int .i64 x.la,.int .i64 x.lnum,.int .i64 x.ra,.int .i64 x.rnum,.int .i64 x.n,.int .i64 x.user]),.is (.bool b),.is (.bool b)] (fun _=>False) (by kernel_rfl) (by kernel_rfl) ?_ ?_
  ·refine ⟨?_,?_,?_,?_,?_,?_,trivial⟩
   ·intro f a wz _ hout hC _;have x4:(a.tmps[4]?).getD undef=.pointer (some ⟨w.heap.size,0,none⟩):=hout 4 (by rfl);exact st_is rfl rfl (by simp[execOp,go_sem,Result.andThen,x4,(HM.out wz (Ct C2.out hC)).1,(HM.out wz (Ct C2.out hC)).2.1,(HM.out wz (Ct C2.out hC)).2.2.1,(HM.out wz (Ct C2.out hC)).2.2.2.1,(HM.out wz (Ct C2.out hC)).2.2.2.2.1,(HM.out wz (Ct C2.out hC)).2.2.2.2.2.1,(HM.out wz (Ct C2.out hC)).2.2.2.2.2.2.1,(HM.out wz (Ct C2.out hC)).2.2.2.2.2.2.2.1,(HM.out wz (Ct C2.out hC)).2.2.2.2.2.2.2.2.1,(HM.out wz (Ct C2.out hC)).2.2.2.2.2.2.2.2.2]) rfl (by simp)
   ·intro f a wz _ hout hC _;have x6:(a.tmps[6]?).getD undef=.pointer (some ⟨w.heap.size+1,0,none⟩):=hout 6 (by rfl);exact st_is rfl rfl (by simp[execOp,go_sem,Result.andThen,x6,(HNc.out wz (Ct C2.out hC)).1,(HNc.out wz (Ct C2.out hC)).2.1,(HNc.out wz (Ct C2.out hC)).2.2.1,(HNc.out wz (Ct C2.out hC)).2.2.2.1,(HNc.out wz (Ct C2.out hC)).2.2.2.2.1,(HNc.out wz (Ct C2.out hC)).2.2.2.2.2]) rfl (by simp)
   ·intro f a wz hin _ hC hd;have x25:(a.tmps[25]?).getD undef=.agg #[.slice n.z.cA n.z.cl.length n.z.cC,.slice n.z.gA n.z.gl.length n.z.gC,.int .i64 n.op,.int .i64 n.dn,.slice n.aD n.did.length n.cD,.slice n.aC n.cnt.length n.cC]:=(hin 25 (by rfl)).trans (hd 1 (by kernel_rfl));refine st_call (f:=53) (args:=#[.agg #[.slice n.z.cA n.z.cl.length n.z.cC,.slice n.z.gA n.z.gl.length n.z.gC,.int .i64 n.op,.int .i64 n.dn,.slice n.aD n.did.length n.cD,.slice n.aC n.cnt.length n.cC]]) rfl rfl (by simp[go_sem,x25]) rfl (by simp) ((HS.out wz (Ct C0.out (Ct C2.out hC))).mono ?_);rintro e w5 ⟨⟨s,rfl,hs,_,e1,e2,e3,e4⟩,hc⟩;exact ⟨_,rfl,⟨s,rfl,hs,e1,e2,e3,e4⟩,hc⟩
   ·intro f a wz _ hout hC _;have x7:(a.tmps[7]?).getD undef=.pointer (some ⟨w.heap.size+2,0,none⟩):=hout 7 (by rfl);exact st_is rfl rfl (by simp[execOp,go_sem,Result.andThen,x7,(HI.out wz (Ct C2.out hC)).1,(HI.out wz (Ct C2.out hC)).2.1,(HI.out wz (Ct C2.out hC)).2.2.1,(HI.out wz (Ct C2.out hC)).2.2.2.1,(HI.out wz (Ct C2.out hC)).2.2.2.2.1,(HI.out wz (Ct C2.out hC)).2.2.2.2.2.1,(HI.out wz (Ct C2.out hC)).2.2.2.2.2.2]) rfl (by simp)
   ·intro f a wz hin _ hC hd;have x24:(a.tmps[24]?).getD undef=.agg #[.slice m.aA m.nA m.cA,.slice m.aI m.nI m.cI,.slice m.aU m.nU m.cU,.slice m.aR m.ro.length m.cR,.slice m.aS m.nS m.cS,.slice m.aE m.ev.length m.cE,.slice m.aG m.gu.length m.cG,.slice m.aM m.mi.length m.cM,.slice m.aD m.so.length m.cD,.slice m.aO m.nO m.cO]:=(hin 24 (by rfl)).trans (hd 0 (by kernel_rfl));obtain ⟨v26w,v26c,v26p⟩:=hd 2 (by kernel_rfl);have x26:=hin 26 (by rfl);have x27:(a.tmps[27]?).getD undef=.agg #[.int .i64 x.op,.int .i64 x.la,.int .i64 x.lnum,.int .i64 x.ra,.int .i64 x.rnum,.int .i64 x.n,.int .i64 x.user]:=(hin 27 (by rfl)).trans (hd 3 (by kernel_rfl));obtain ⟨s,v26e,hs,e1,e2,e3,e4⟩:=v26p;replace x26:=x26.trans v26e;exact st_calli (f:=65) (args:=#[.agg #[.slice m.aA m.nA m.cA,.slice m.aI m.nI m.cI,.slice m.aU m.nU m.cU,.slice m.aR m.ro.length m.cR,.slice m.aS m.nS m.cS,.slice m.aE m.ev.length m.cE,.slice m.aG m.gu.length m.cG,.slice m.aM m.mi.length m.cM,.slice m.aD m.so.length m.cD,.slice m.aO m.nO m.cO],.agg (sA s),.agg #[.int .i64 x.op,.int .i64 x.la,.int .i64 x.lnum,.int .i64 x.ra,.int .i64 x.rnum,.int .i64 x.n,.int .i64 x.user]]) rfl rfl (by simp[go_sem,x24,x26,x27]) rfl (by simp) (HP.out wz (Ct C0.out (Ct C2.out hC)) s (hs.later v26c) e1 e2 e3 e4)
   ·intro f a wz hin _ _ hd;have x28:(a.tmps[28]?).getD undef=.bool b:=(hin 28 (by rfl)).trans (hd 4 (by kernel_rfl));exact st_is rfl rfl (by simp[execOp,go_sem,x28]) rfl (by simp)
  ·intro f wz hC hd;have q8:f 8=.bool b:=hd 5 (show 5 < 6 by omega);have C4:=zI (Ct C0.out (Ct C2.out hC));clear hd hC HS HP HM HNc HI C2 C0;simp only[putAll,List.setIfInBounds_toArray,List.set_cons_succ,List.set_cons_zero,q8];clear q8;go_wp2
   go_ret;exact ⟨by rw[hv.out];rfl,C4.out⟩
end
end Go.Proofs.YthohgagkjnbkbaaGreat
