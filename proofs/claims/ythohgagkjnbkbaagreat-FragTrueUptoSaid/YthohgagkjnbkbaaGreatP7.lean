/- FragTrue, part 7: FrEv. Each theorem says what a function does, or a plain fact, under its own premises alone. -/
import Derived.Test.YthohgagkjnbkbaaGreatP6
set_option maxRecDepth 100000
set_option maxHeartbeats 16000000
namespace Go.Proofs.YthohgagkjnbkbaaGreat
section
open Go.RowKit
def shp (l:List Nm.Inst):List Nm.Item:=l.map toItem
theorem shp_len (l:List Nm.Inst):(shp l).length=l.length:=by simp[shp]
theorem shp_sg {l:List Nm.Inst} {k:Nat} {x:Nm.Inst} (h:l[k]?=some x):sg (shp l) k=x.op:=by
 have:(shp l)[k]?=some (toItem x):=by simp[shp,h]
 rw[sg_at this];rfl
def lfB (s:SC) (vs:List Int) (x:Nm.Inst):Bool:=
 if x.op=1 then true else if x.op=9 then hasB s.op x.n else if x.op=10 then hasB s.dn x.n
 else if 3<=x.op/\x.op<=8 then cmpB x.op (valV vs x.la x.lnum) (valV vs x.ra x.rnum) else false
theorem ev_1 (w:World) (A B:Option Addr) (c d:Nat) (l:List Nm.Inst) (s:SC) (k:Nat) (x:Nm.Inst) (hl:l.length<=64) (hx:l[k]?=some x) (hr:Rd w w.heap.size A (l.flatMap instV7)) (hi:Rd w w.heap.size B (cellsI (shp l))) (hS:SOK w s) (ho:x.op=1) (hkid:Tr.kidsB (sg (shp l)) k=[]):Calls Tryz.prog 121 #[.slice A l.length c,.slice B l.length d,.int .i64 k,.agg (sA s)] w fun e w'=>e=.returned (.bool true)/\Chg (fun _=>False) w w':=by
 have hk:k < l.length:=(List.getElem?_eq_some_iff.1 hx).1;have hop:=shp_sg hx;obtain ⟨h1,h2⟩:=cells2 w 134 83 (sA s) (iA x);have C0:=zI (chg2 w (.cells (sA s) 134) (.cells (iA x) 83));have HK:=zI (refKids_any _ B d (shp l) k (by rw[shp_len];exact hk) (fun h=>absurd (by rw[hop,ho];rfl) h) (by rw[shp_len];omega) (hi.later C0.out (fun _ h=>h.elim)));rw[shp_len] at HK;rw[hkid] at HK;obtain ⟨b0,o0,rfl,hb0,c0,c1,c2,c3,c4,c5,c6⟩:=ins_at hr hx;have HS:=zI (fun (w':World) (h:Chg (fun _=>False) w w')=>hS.later h);replace c0:=kal (o:=.cells (sA s) 134) c0;replace c1:=kal (o:=.cells (sA s) 134) c1;replace c2:=kal (o:=.cells (sA s) 134) c2;replace c3:=kal (o:=.cells (sA s) 134) c3;replace c4:=kal (o:=.cells (sA s) 134) c4;replace c5:=kal (o:=.cells (sA s) 134) c5;replace c6:=kal (o:=.cells (sA s) 134) c6;obtain ⟨w2,hw2⟩:∃ w2,w2=(w.alloc (.cells (sA s) 134)).alloc (.cells (iA x) 83):=⟨_,rfl⟩;rw[<-hw2] at HK C0 h1 h2;replace h1:=zI h1;replace h2:=zI h2;unfold sA iA at hw2;unfold sA at c0 c1 c2 c3 c4 c5 c6 |-;clear hr hi hkid hb0 hS hop;rw[ho] at c0 hw2;go_enter Tryz.func121,Tryz.ntmps121;go_wp2_with (go_at_call 66;rw[<-hw2];refine HK.out.mono ?_;rintro e w3 ⟨A1,n1,rfl,hm1,hR1,hC1,hF1⟩;have C1:=zI (Ct C0.out hC1);have hb1:=zI (h1.out.chg hC1 (fun h=>h));have hb2:=zI (h2.out.chg hC1 (fun h=>h));obtain ⟨f0,f1,f2,f3,f4⟩:=scells hb1.out;obtain ⟨g0,g1,g2,g3,g4,g5,g6⟩:=icells hb2.out;clear hR1 hm1;rw[ho] at g0;clear hF1 HK C0 h1 h2 hw2 c0 c1 c2 c3 c4 c5 c6)
 go_ret;exact ⟨rfl,C1.out⟩
theorem ev_2 (w:World) (A B:Option Addr) (c d:Nat) (l:List Nm.Inst) (s:SC) (k:Nat) (x:Nm.Inst) (hl:l.length<=64) (hx:l[k]?=some x) (hr:Rd w w.heap.size A (l.flatMap instV7)) (hi:Rd w w.heap.size B (cellsI (shp l))) (hS:SOK w s) (ho:x.op=2) (hkid:Tr.kidsB (sg (shp l)) k=[]):Calls Tryz.prog 121 #[.slice A l.length c,.slice B l.length d,.int .i64 k,.agg (sA s)] w fun e w'=>e=.returned (.bool false)/\Chg (fun _=>False) w w':=by
 have hk:k < l.length:=(List.getElem?_eq_some_iff.1 hx).1;have hop:=shp_sg hx;obtain ⟨h1,h2⟩:=cells2 w 134 83 (sA s) (iA x);have C0:=zI (chg2 w (.cells (sA s) 134) (.cells (iA x) 83));have HK:=zI (refKids_any _ B d (shp l) k (by rw[shp_len];exact hk) (fun h=>absurd (by rw[hop,ho];rfl) h) (by rw[shp_len];omega) (hi.later C0.out (fun _ h=>h.elim)));rw[shp_len] at HK;rw[hkid] at HK;obtain ⟨b0,o0,rfl,hb0,c0,c1,c2,c3,c4,c5,c6⟩:=ins_at hr hx;have HS:=zI (fun (w':World) (h:Chg (fun _=>False) w w')=>hS.later h);replace c0:=kal (o:=.cells (sA s) 134) c0;replace c1:=kal (o:=.cells (sA s) 134) c1;replace c2:=kal (o:=.cells (sA s) 134) c2;replace c3:=kal (o:=.cells (sA s) 134) c3;replace c4:=kal (o:=.cells (sA s) 134) c4;replace c5:=kal (o:=.cells (sA s) 134) c5;replace c6:=kal (o:=.cells (sA s) 134) c6;obtain ⟨w2,hw2⟩:∃ w2,w2=(w.alloc (.cells (sA s) 134)).alloc (.cells (iA x) 83):=⟨_,rfl⟩;rw[<-hw2] at HK C0 h1 h2;replace h1:=zI h1;replace h2:=zI h2;unfold sA iA at hw2;unfold sA at c0 c1 c2 c3 c4 c5 c6 |-;clear hr hi hkid hb0 hS hop;rw[ho] at c0 hw2;go_enter Tryz.func121,Tryz.ntmps121;go_wp2_with (go_at_call 66;rw[<-hw2];refine HK.out.mono ?_;rintro e w3 ⟨A1,n1,rfl,hm1,hR1,hC1,hF1⟩;have C1:=zI (Ct C0.out hC1);have hb1:=zI (h1.out.chg hC1 (fun h=>h));have hb2:=zI (h2.out.chg hC1 (fun h=>h));obtain ⟨f0,f1,f2,f3,f4⟩:=scells hb1.out;obtain ⟨g0,g1,g2,g3,g4,g5,g6⟩:=icells hb2.out;clear hR1 hm1;rw[ho] at g0;clear hF1 HK C0 h1 h2 hw2 c0 c1 c2 c3 c4 c5 c6)
 go_ret;exact ⟨rfl,C1.out⟩
theorem ev_9 (w:World) (A B:Option Addr) (c d:Nat) (l:List Nm.Inst) (s:SC) (k:Nat) (x:Nm.Inst) (hl:l.length<=64) (hx:l[k]?=some x) (hr:Rd w w.heap.size A (l.flatMap instV7)) (hi:Rd w w.heap.size B (cellsI (shp l))) (hS:SOK w s) (ho:x.op=9) (hkid:Tr.kidsB (sg (shp l)) k=[]):Calls Tryz.prog 121 #[.slice A l.length c,.slice B l.length d,.int .i64 k,.agg (sA s)] w fun e w'=>e=.returned (.bool (hasB s.op x.n))/\Chg (fun _=>False) w w':=by
 have hk:k < l.length:=(List.getElem?_eq_some_iff.1 hx).1;have hop:=shp_sg hx;obtain ⟨h1,h2⟩:=cells2 w 134 83 (sA s) (iA x);have C0:=zI (chg2 w (.cells (sA s) 134) (.cells (iA x) 83));have HK:=zI (refKids_any _ B d (shp l) k (by rw[shp_len];exact hk) (fun h=>absurd (by rw[hop,ho];rfl) h) (by rw[shp_len];omega) (hi.later C0.out (fun _ h=>h.elim)));rw[shp_len] at HK;rw[hkid] at HK;obtain ⟨b0,o0,rfl,hb0,c0,c1,c2,c3,c4,c5,c6⟩:=ins_at hr hx;have HS:=zI (fun (w':World) (h:Chg (fun _=>False) w w')=>hS.later h);replace c0:=kal (o:=.cells (sA s) 134) c0;replace c1:=kal (o:=.cells (sA s) 134) c1;replace c2:=kal (o:=.cells (sA s) 134) c2;replace c3:=kal (o:=.cells (sA s) 134) c3;replace c4:=kal (o:=.cells (sA s) 134) c4;replace c5:=kal (o:=.cells (sA s) 134) c5;replace c6:=kal (o:=.cells (sA s) 134) c6;obtain ⟨w2,hw2⟩:∃ w2,w2=(w.alloc (.cells (sA s) 134)).alloc (.cells (iA x) 83):=⟨_,rfl⟩;rw[<-hw2] at HK C0 h1 h2;replace h1:=zI h1;replace h2:=zI h2;unfold sA iA at hw2;unfold sA at c0 c1 c2 c3 c4 c5 c6 |-;clear hr hi hkid hb0 hS hop;rw[ho] at c0 hw2;go_enter Tryz.func121,Tryz.ntmps121;go_wp2_with (first | (go_at_call 66;rw[<-hw2];refine HK.out.mono ?_;rintro e w3 ⟨A1,n1,rfl,hm1,hR1,hC1,hF1⟩;have C1:=zI (Ct C0.out hC1);have hb1:=zI (h1.out.chg hC1 (fun h=>h));have hb2:=zI (h2.out.chg hC1 (fun h=>h));obtain ⟨f0,f1,f2,f3,f4⟩:=scells hb1.out;obtain ⟨g0,g1,g2,g3,g4,g5,g6⟩:=icells hb2.out;clear hR1 hm1;rw[ho] at g0;clear hF1 HK C0 h1 h2 hw2 c0 c1 c2 c3 c4 c5 c6) | (go_at_call 99;refine (refHas_any _ s.op x.n (HS.out w (Chg.refl _ _)).opR).mono ?_;rintro e w4 ⟨rfl,rfl⟩))
 go_ret;exact ⟨rfl,C1.out⟩
theorem ev_10 (w:World) (A B:Option Addr) (c d:Nat) (l:List Nm.Inst) (s:SC) (k:Nat) (x:Nm.Inst) (hl:l.length<=64) (hx:l[k]?=some x) (hr:Rd w w.heap.size A (l.flatMap instV7)) (hi:Rd w w.heap.size B (cellsI (shp l))) (hS:SOK w s) (ho:x.op=10) (hkid:Tr.kidsB (sg (shp l)) k=[]):Calls Tryz.prog 121 #[.slice A l.length c,.slice B l.length d,.int .i64 k,.agg (sA s)] w fun e w'=>e=.returned (.bool (hasB s.dn x.n))/\Chg (fun _=>False) w w':=by
 have hk:k < l.length:=(List.getElem?_eq_some_iff.1 hx).1;have hop:=shp_sg hx;obtain ⟨h1,h2⟩:=cells2 w 134 83 (sA s) (iA x);have C0:=zI (chg2 w (.cells (sA s) 134) (.cells (iA x) 83));have HK:=zI (refKids_any _ B d (shp l) k (by rw[shp_len];exact hk) (fun h=>absurd (by rw[hop,ho];rfl) h) (by rw[shp_len];omega) (hi.later C0.out (fun _ h=>h.elim)));rw[shp_len] at HK;rw[hkid] at HK;obtain ⟨b0,o0,rfl,hb0,c0,c1,c2,c3,c4,c5,c6⟩:=ins_at hr hx;have HS:=zI (fun (w':World) (h:Chg (fun _=>False) w w')=>hS.later h);replace c0:=kal (o:=.cells (sA s) 134) c0;replace c1:=kal (o:=.cells (sA s) 134) c1;replace c2:=kal (o:=.cells (sA s) 134) c2;replace c3:=kal (o:=.cells (sA s) 134) c3;replace c4:=kal (o:=.cells (sA s) 134) c4;replace c5:=kal (o:=.cells (sA s) 134) c5;replace c6:=kal (o:=.cells (sA s) 134) c6;obtain ⟨w2,hw2⟩:∃ w2,w2=(w.alloc (.cells (sA s) 134)).alloc (.cells (iA x) 83):=⟨_,rfl⟩;rw[<-hw2] at HK C0 h1 h2;replace h1:=zI h1;replace h2:=zI h2;unfold sA iA at hw2;unfold sA at c0 c1 c2 c3 c4 c5 c6 |-;clear hr hi hkid hb0 hS hop;rw[ho] at c0 hw2;go_enter Tryz.func121,Tryz.ntmps121;go_wp2_with (first | (go_at_call 66;rw[<-hw2];refine HK.out.mono ?_;rintro e w3 ⟨A1,n1,rfl,hm1,hR1,hC1,hF1⟩;have C1:=zI (Ct C0.out hC1);have hb1:=zI (h1.out.chg hC1 (fun h=>h));have hb2:=zI (h2.out.chg hC1 (fun h=>h));obtain ⟨f0,f1,f2,f3,f4⟩:=scells hb1.out;obtain ⟨g0,g1,g2,g3,g4,g5,g6⟩:=icells hb2.out;clear hR1 hm1;rw[ho] at g0;clear hF1 HK C0 h1 h2 hw2 c0 c1 c2 c3 c4 c5 c6) | (go_at_call 99;refine (refHas_any _ s.dn x.n (HS.out w (Chg.refl _ _)).dnR).mono ?_;rintro e w4 ⟨rfl,rfl⟩))
 go_ret;exact ⟨rfl,C1.out⟩
theorem ev_cmp (w:World) (A B:Option Addr) (c d:Nat) (l:List Nm.Inst) (s:SC) (vs:List Int) (k:Nat) (x:Nm.Inst) (hl:l.length<=64) (hx:l[k]?=some x) (hr:Rd w w.heap.size A (l.flatMap instV7)) (hi:Rd w w.heap.size B (cellsI (shp l))) (hS:SOK w s) (hV:VOK w s vs) (ho:3<=x.op/\x.op<=8) (hla:thB s.nV x.la=true) (hra:thB s.nV x.ra=true) (hkid:Tr.kidsB (sg (shp l)) k=[]):Calls Tryz.prog 121 #[.slice A l.length c,.slice B l.length d,.int .i64 k,.agg (sA s)] w fun e w'=>e=.returned (.bool (cmpB x.op (valV vs x.la x.lnum) (valV vs x.ra x.rnum)))/\Chg (fun _=>False) w w':=by
 have hk:k < l.length:=(List.getElem?_eq_some_iff.1 hx).1;have hop:=shp_sg hx;obtain ⟨h1,h2⟩:=cells2 w 134 83 (sA s) (iA x);have C0:=zI (chg2 w (.cells (sA s) 134) (.cells (iA x) 83));have HK:=zI (refKids_any _ B d (shp l) k (by rw[shp_len];exact hk) (fun h=>absurd (by rw[hop];unfold Tr.arity;rw[if_pos (by omega)]) h) (by rw[shp_len];omega) (hi.later C0.out (fun _ h=>h.elim)));rw[shp_len] at HK;rw[hkid] at HK;obtain ⟨b0,o0,rfl,hb0,c0,c1,c2,c3,c4,c5,c6⟩:=ins_at hr hx;have HS:=zI (fun (w':World) (h:Chg (fun _=>False) w w')=>hS.later h);replace c0:=kal (o:=.cells (sA s) 134) c0;replace c1:=kal (o:=.cells (sA s) 134) c1;replace c2:=kal (o:=.cells (sA s) 134) c2;replace c3:=kal (o:=.cells (sA s) 134) c3;replace c4:=kal (o:=.cells (sA s) 134) c4;replace c5:=kal (o:=.cells (sA s) 134) c5;replace c6:=kal (o:=.cells (sA s) 134) c6;obtain ⟨w2,hw2⟩:∃ w2,w2=(w.alloc (.cells (sA s) 134)).alloc (.cells (iA x) 83):=⟨_,rfl⟩;rw[<-hw2] at HK C0 h1 h2;replace h1:=zI h1;replace h2:=zI h2;have HVL:=zI (fun (w':World) (h:Chg (fun _=>False) w w')=>val_any w' s vs x.la x.lnum (hV.later h) hla);have HVR:=zI (fun (w':World) (h:Chg (fun _=>False) w w')=>val_any w' s vs x.ra x.rnum (hV.later h) hra);obtain ⟨va,hva⟩:∃ va,va=valV vs x.la x.lnum:=⟨_,rfl⟩;obtain ⟨vb,hvb⟩:∃ vb,vb=valV vs x.ra x.rnum:=⟨_,rfl⟩;rw[<-hva] at HVL |-;rw[<-hvb] at HVR |-;unfold sA vA at HVL HVR;unfold sA iA at hw2;unfold sA at c0 c1 c2 c3 c4 c5 c6 |-;clear hr hi hkid hb0 hS hop hV hva hvb hla hra;have hos:x.op=3\/x.op=4\/x.op=5\/x.op=6\/x.op=7\/x.op=8:=by omega
 obtain ⟨op,hop⟩:∃ op,op=x.op:=⟨_,rfl⟩;rw[<-hop] at hos c0 hw2 |-;clear ho;replace hop:=zI hop;rcases hos with rfl | rfl | rfl | rfl | rfl | rfl
 ·go_enter Tryz.func121,Tryz.ntmps121;go_wp2_with (go_at_call 66;rw[<-hw2];refine HK.out.mono ?_;rintro e w3 ⟨A1,n1,rfl,hm1,hR1,hC1,hF1⟩;have C1:=zI (Ct C0.out hC1);have hb1:=zI (h1.out.chg hC1 (fun h=>h));have hb2:=zI (h2.out.chg hC1 (fun h=>h));obtain ⟨f0,f1,f2,f3,f4⟩:=scells hb1.out;obtain ⟨g0,g1,g2,g3,g4,g5,g6⟩:=icells hb2.out;clear hR1 hm1;rw[<-hop.out] at g0;clear hF1 HK C0 h1 h2 hw2 c0 c1 c2 c3 c4 c5 c6)
  refine wp_region_kept w3 (Chg.refl _ _) (by kernel_rfl) (by kernel_rfl) ?_;have K0:=fun n:KW w3=>kept_cell g0 n
  have K1:=fun n:KW w3=>kept_cell g1 n
  have K2:=fun n:KW w3=>kept_cell g2 n
  have K3:=fun n:KW w3=>kept_cell g3 n
  have K4:=fun n:KW w3=>kept_cell g4 n
  have F0:=fun n:KW w3=>kept_cell f0 n
  have F1:=fun n:KW w3=>kept_cell f1 n
  have F2:=fun n:KW w3=>kept_cell f2 n
  have F3:=fun n:KW w3=>kept_cell f3 n
  have F4:=fun n:KW w3=>kept_cell f4 n
  clear g0 g1 g2 g3 g4 g5 g6 f0 f1 f2 f3 f4;have HL:=zI (fun n:KW w3=>kept_call (HVL.out n.w (Ct C1.out n.h)));have HR:=zI (fun n:KW w3=>kept_call (HVR.out n.w (Ct C1.out n.h)));have HP:=zI (fun n:KW w3=>kept_same (cmp_any n.w 3 va vb));repeat (go_big_quiet_step (first | with_reducible exact HL.out _ | with_reducible exact HR.out _ | with_reducible exact HP.out _))
  refine wpQuiet_nil ?_;rintro w4 ⟨n,rfl⟩;have C4:=zI (Ct C1.out n.h);obtain ⟨w5,hw5⟩:∃ w5,w5=n.w:=⟨_,rfl⟩;rw[<-hw5] at C4 |-;clear hw5 K0 K1 K2 K3 K4 F0 F1 F2 F3 F4;go_wp2
  go_ret;exact ⟨rfl,C4.out⟩
 ·go_enter Tryz.func121,Tryz.ntmps121;go_wp2_with (go_at_call 66;rw[<-hw2];refine HK.out.mono ?_;rintro e w3 ⟨A1,n1,rfl,hm1,hR1,hC1,hF1⟩;have C1:=zI (Ct C0.out hC1);have hb1:=zI (h1.out.chg hC1 (fun h=>h));have hb2:=zI (h2.out.chg hC1 (fun h=>h));obtain ⟨f0,f1,f2,f3,f4⟩:=scells hb1.out;obtain ⟨g0,g1,g2,g3,g4,g5,g6⟩:=icells hb2.out;clear hR1 hm1;rw[<-hop.out] at g0;clear hF1 HK C0 h1 h2 hw2 c0 c1 c2 c3 c4 c5 c6)
  refine wp_region_kept w3 (Chg.refl _ _) (by kernel_rfl) (by kernel_rfl) ?_;have K0:=fun n:KW w3=>kept_cell g0 n
  have K1:=fun n:KW w3=>kept_cell g1 n
  have K2:=fun n:KW w3=>kept_cell g2 n
  have K3:=fun n:KW w3=>kept_cell g3 n
  have K4:=fun n:KW w3=>kept_cell g4 n
  have F0:=fun n:KW w3=>kept_cell f0 n
  have F1:=fun n:KW w3=>kept_cell f1 n
  have F2:=fun n:KW w3=>kept_cell f2 n
  have F3:=fun n:KW w3=>kept_cell f3 n
  have F4:=fun n:KW w3=>kept_cell f4 n
  clear g0 g1 g2 g3 g4 g5 g6 f0 f1 f2 f3 f4;have HL:=zI (fun n:KW w3=>kept_call (HVL.out n.w (Ct C1.out n.h)));have HR:=zI (fun n:KW w3=>kept_call (HVR.out n.w (Ct C1.out n.h)));have HP:=zI (fun n:KW w3=>kept_same (cmp_any n.w 4 va vb));repeat (go_big_quiet_step (first | with_reducible exact HL.out _ | with_reducible exact HR.out _ | with_reducible exact HP.out _))
  refine wpQuiet_nil ?_;rintro w4 ⟨n,rfl⟩;have C4:=zI (Ct C1.out n.h);obtain ⟨w5,hw5⟩:∃ w5,w5=n.w:=⟨_,rfl⟩;rw[<-hw5] at C4 |-;clear hw5 K0 K1 K2 K3 K4 F0 F1 F2 F3 F4;go_wp2
  go_ret;exact ⟨rfl,C4.out⟩
 ·go_enter Tryz.func121,Tryz.ntmps121;go_wp2_with (go_at_call 66;rw[<-hw2];refine HK.out.mono ?_;rintro e w3 ⟨A1,n1,rfl,hm1,hR1,hC1,hF1⟩;have C1:=zI (Ct C0.out hC1);have hb1:=zI (h1.out.chg hC1 (fun h=>h));have hb2:=zI (h2.out.chg hC1 (fun h=>h));obtain ⟨f0,f1,f2,f3,f4⟩:=scells hb1.out;obtain ⟨g0,g1,g2,g3,g4,g5,g6⟩:=icells hb2.out;clear hR1 hm1;rw[<-hop.out] at g0;clear hF1 HK C0 h1 h2 hw2 c0 c1 c2 c3 c4 c5 c6)
  refine wp_region_kept w3 (Chg.refl _ _) (by kernel_rfl) (by kernel_rfl) ?_;have K0:=fun n:KW w3=>kept_cell g0 n
  have K1:=fun n:KW w3=>kept_cell g1 n
  have K2:=fun n:KW w3=>kept_cell g2 n
  have K3:=fun n:KW w3=>kept_cell g3 n
  have K4:=fun n:KW w3=>kept_cell g4 n
  have F0:=fun n:KW w3=>kept_cell f0 n
  have F1:=fun n:KW w3=>kept_cell f1 n
  have F2:=fun n:KW w3=>kept_cell f2 n
  have F3:=fun n:KW w3=>kept_cell f3 n
  have F4:=fun n:KW w3=>kept_cell f4 n
  clear g0 g1 g2 g3 g4 g5 g6 f0 f1 f2 f3 f4;have HL:=zI (fun n:KW w3=>kept_call (HVL.out n.w (Ct C1.out n.h)));have HR:=zI (fun n:KW w3=>kept_call (HVR.out n.w (Ct C1.out n.h)));have HP:=zI (fun n:KW w3=>kept_same (cmp_any n.w 5 va vb));repeat (go_big_quiet_step (first | with_reducible exact HL.out _ | with_reducible exact HR.out _ | with_reducible exact HP.out _))
  refine wpQuiet_nil ?_;rintro w4 ⟨n,rfl⟩;have C4:=zI (Ct C1.out n.h);obtain ⟨w5,hw5⟩:∃ w5,w5=n.w:=⟨_,rfl⟩;rw[<-hw5] at C4 |-;clear hw5 K0 K1 K2 K3 K4 F0 F1 F2 F3 F4;go_wp2
  go_ret;exact ⟨rfl,C4.out⟩
 ·go_enter Tryz.func121,Tryz.ntmps121;go_wp2_with (go_at_call 66;rw[<-hw2];refine HK.out.mono ?_;rintro e w3 ⟨A1,n1,rfl,hm1,hR1,hC1,hF1⟩;have C1:=zI (Ct C0.out hC1);have hb1:=zI (h1.out.chg hC1 (fun h=>h));have hb2:=zI (h2.out.chg hC1 (fun h=>h));obtain ⟨f0,f1,f2,f3,f4⟩:=scells hb1.out;obtain ⟨g0,g1,g2,g3,g4,g5,g6⟩:=icells hb2.out;clear hR1 hm1;rw[<-hop.out] at g0;clear hF1 HK C0 h1 h2 hw2 c0 c1 c2 c3 c4 c5 c6)
  refine wp_region_kept w3 (Chg.refl _ _) (by kernel_rfl) (by kernel_rfl) ?_;have K0:=fun n:KW w3=>kept_cell g0 n
  have K1:=fun n:KW w3=>kept_cell g1 n
  have K2:=fun n:KW w3=>kept_cell g2 n
  have K3:=fun n:KW w3=>kept_cell g3 n
  have K4:=fun n:KW w3=>kept_cell g4 n
  have F0:=fun n:KW w3=>kept_cell f0 n
  have F1:=fun n:KW w3=>kept_cell f1 n
  have F2:=fun n:KW w3=>kept_cell f2 n
  have F3:=fun n:KW w3=>kept_cell f3 n
  have F4:=fun n:KW w3=>kept_cell f4 n
  clear g0 g1 g2 g3 g4 g5 g6 f0 f1 f2 f3 f4;have HL:=zI (fun n:KW w3=>kept_call (HVL.out n.w (Ct C1.out n.h)));have HR:=zI (fun n:KW w3=>kept_call (HVR.out n.w (Ct C1.out n.h)));have HP:=zI (fun n:KW w3=>kept_same (cmp_any n.w 6 va vb));repeat (go_big_quiet_step (first | with_reducible exact HL.out _ | with_reducible exact HR.out _ | with_reducible exact HP.out _))
  refine wpQuiet_nil ?_;rintro w4 ⟨n,rfl⟩;have C4:=zI (Ct C1.out n.h);obtain ⟨w5,hw5⟩:∃ w5,w5=n.w:=⟨_,rfl⟩;rw[<-hw5] at C4 |-;clear hw5 K0 K1 K2 K3 K4 F0 F1 F2 F3 F4;go_wp2
  go_ret;exact ⟨rfl,C4.out⟩
 ·go_enter Tryz.func121,Tryz.ntmps121;go_wp2_with (go_at_call 66;rw[<-hw2];refine HK.out.mono ?_;rintro e w3 ⟨A1,n1,rfl,hm1,hR1,hC1,hF1⟩;have C1:=zI (Ct C0.out hC1);have hb1:=zI (h1.out.chg hC1 (fun h=>h));have hb2:=zI (h2.out.chg hC1 (fun h=>h));obtain ⟨f0,f1,f2,f3,f4⟩:=scells hb1.out;obtain ⟨g0,g1,g2,g3,g4,g5,g6⟩:=icells hb2.out;clear hR1 hm1;rw[<-hop.out] at g0;clear hF1 HK C0 h1 h2 hw2 c0 c1 c2 c3 c4 c5 c6)
  refine wp_region_kept w3 (Chg.refl _ _) (by kernel_rfl) (by kernel_rfl) ?_;have K0:=fun n:KW w3=>kept_cell g0 n
  have K1:=fun n:KW w3=>kept_cell g1 n
  have K2:=fun n:KW w3=>kept_cell g2 n
  have K3:=fun n:KW w3=>kept_cell g3 n
  have K4:=fun n:KW w3=>kept_cell g4 n
  have F0:=fun n:KW w3=>kept_cell f0 n
  have F1:=fun n:KW w3=>kept_cell f1 n
  have F2:=fun n:KW w3=>kept_cell f2 n
  have F3:=fun n:KW w3=>kept_cell f3 n
  have F4:=fun n:KW w3=>kept_cell f4 n
  clear g0 g1 g2 g3 g4 g5 g6 f0 f1 f2 f3 f4;have HL:=zI (fun n:KW w3=>kept_call (HVL.out n.w (Ct C1.out n.h)));have HR:=zI (fun n:KW w3=>kept_call (HVR.out n.w (Ct C1.out n.h)));have HP:=zI (fun n:KW w3=>kept_same (cmp_any n.w 7 va vb));repeat (go_big_quiet_step (first | with_reducible exact HL.out _ | with_reducible exact HR.out _ | with_reducible exact HP.out _))
  refine wpQuiet_nil ?_;rintro w4 ⟨n,rfl⟩;have C4:=zI (Ct C1.out n.h);obtain ⟨w5,hw5⟩:∃ w5,w5=n.w:=⟨_,rfl⟩;rw[<-hw5] at C4 |-;clear hw5 K0 K1 K2 K3 K4 F0 F1 F2 F3 F4;go_wp2
  go_ret;exact ⟨rfl,C4.out⟩
 ·go_enter Tryz.func121,Tryz.ntmps121;go_wp2_with (go_at_call 66;rw[<-hw2];refine HK.out.mono ?_;rintro e w3 ⟨A1,n1,rfl,hm1,hR1,hC1,hF1⟩;have C1:=zI (Ct C0.out hC1);have hb1:=zI (h1.out.chg hC1 (fun h=>h));have hb2:=zI (h2.out.chg hC1 (fun h=>h));obtain ⟨f0,f1,f2,f3,f4⟩:=scells hb1.out;obtain ⟨g0,g1,g2,g3,g4,g5,g6⟩:=icells hb2.out;clear hR1 hm1;rw[<-hop.out] at g0;clear hF1 HK C0 h1 h2 hw2 c0 c1 c2 c3 c4 c5 c6)
  refine wp_region_kept w3 (Chg.refl _ _) (by kernel_rfl) (by kernel_rfl) ?_;have K0:=fun n:KW w3=>kept_cell g0 n
  have K1:=fun n:KW w3=>kept_cell g1 n
  have K2:=fun n:KW w3=>kept_cell g2 n
  have K3:=fun n:KW w3=>kept_cell g3 n
  have K4:=fun n:KW w3=>kept_cell g4 n
  have F0:=fun n:KW w3=>kept_cell f0 n
  have F1:=fun n:KW w3=>kept_cell f1 n
  have F2:=fun n:KW w3=>kept_cell f2 n
  have F3:=fun n:KW w3=>kept_cell f3 n
  have F4:=fun n:KW w3=>kept_cell f4 n
  clear g0 g1 g2 g3 g4 g5 g6 f0 f1 f2 f3 f4;have HL:=zI (fun n:KW w3=>kept_call (HVL.out n.w (Ct C1.out n.h)));have HR:=zI (fun n:KW w3=>kept_call (HVR.out n.w (Ct C1.out n.h)));have HP:=zI (fun n:KW w3=>kept_same (cmp_any n.w 8 va vb));repeat (go_big_quiet_step (first | with_reducible exact HL.out _ | with_reducible exact HR.out _ | with_reducible exact HP.out _))
  refine wpQuiet_nil ?_;rintro w4 ⟨n,rfl⟩;have C4:=zI (Ct C1.out n.h);obtain ⟨w5,hw5⟩:∃ w5,w5=n.w:=⟨_,rfl⟩;rw[<-hw5] at C4 |-;clear hw5 K0 K1 K2 K3 K4 F0 F1 F2 F3 F4;go_wp2
  go_ret;exact ⟨rfl,C4.out⟩
theorem ev_15 (w:World) (A B:Option Addr) (c d:Nat) (l:List Nm.Inst) (s:SC) (k:Nat) (x:Nm.Inst) (hl:l.length<=64) (hx:l[k]?=some x) (hr:Rd w w.heap.size A (l.flatMap instV7)) (hi:Rd w w.heap.size B (cellsI (shp l))) (hS:SOK w s) (ho:x.op=15) (vx:Bool) (ex:Nat) (hk1:1<=k) (hkid:Tr.kidsB (sg (shp l)) k=[(ex:Int)]) (HX:∀ w',Chg (fun _=>False) w w'->Calls Tryz.prog 121 #[.slice A l.length c,.slice B l.length d,.int .i64 ex,.agg (sA s)] w' fun e w2=>e=.returned (.bool vx)/\Chg (fun _=>False) w' w2)  :Calls Tryz.prog 121 #[.slice A l.length c,.slice B l.length d,.int .i64 k,.agg (sA s)] w fun e w'=>e=.returned (.bool (!vx))/\Chg (fun _=>False) w w':=by
 have hk:k < l.length:=(List.getElem?_eq_some_iff.1 hx).1;have hop:=shp_sg hx;obtain ⟨h1,h2⟩:=cells2 w 134 83 (sA s) (iA x);have C0:=zI (chg2 w (.cells (sA s) 134) (.cells (iA x) 83));have HK:=zI (refKids_any _ B d (shp l) k (by rw[shp_len];exact hk) (fun _=>hk1) (by rw[shp_len];omega) (hi.later C0.out (fun _ h=>h.elim)));rw[shp_len] at HK;rw[hkid] at HK;obtain ⟨b0,o0,rfl,hb0,c0,c1,c2,c3,c4,c5,c6⟩:=ins_at hr hx;have HS:=zI (fun (w':World) (h:Chg (fun _=>False) w w')=>hS.later h);replace c0:=kal (o:=.cells (sA s) 134) c0;replace c1:=kal (o:=.cells (sA s) 134) c1;replace c2:=kal (o:=.cells (sA s) 134) c2;replace c3:=kal (o:=.cells (sA s) 134) c3;replace c4:=kal (o:=.cells (sA s) 134) c4;replace c5:=kal (o:=.cells (sA s) 134) c5;replace c6:=kal (o:=.cells (sA s) 134) c6;obtain ⟨w2,hw2⟩:∃ w2,w2=(w.alloc (.cells (sA s) 134)).alloc (.cells (iA x) 83):=⟨_,rfl⟩;rw[<-hw2] at HK C0 h1 h2;replace h1:=zI h1;replace h2:=zI h2;replace HX:=zI HX;unfold sA at HX;unfold sA iA at hw2;unfold sA at c0 c1 c2 c3 c4 c5 c6 |-;clear hr hi hkid hb0 hS hop;rw[ho] at c0 hw2;go_enter Tryz.func121,Tryz.ntmps121;go_wp2_with (go_at_call 66;rw[<-hw2];refine HK.out.mono ?_;rintro e w3 ⟨A1,n1,rfl,hm1,hR1,hC1,hF1⟩;have C1:=zI (Ct C0.out hC1);have hb1:=zI (h1.out.chg hC1 (fun h=>h));have hb2:=zI (h2.out.chg hC1 (fun h=>h));obtain ⟨f0,f1,f2,f3,f4⟩:=scells hb1.out;obtain ⟨g0,g1,g2,g3,g4,g5,g6⟩:=icells hb2.out;have hkc:=hR1.plain (by simp[intsV]);obtain ⟨b1,o1,rfl,_,k12⟩:=hkc;have k0:=k12 0 _ rfl;rw[Nat.add_zero] at k0;clear hR1 hm1 k12;rw[ho] at g0;clear hF1 HK C0 h1 h2 hw2 c0 c1 c2 c3 c4 c5 c6)
 refine wp_region_kept w3 (Chg.refl _ _) (by kernel_rfl) (by kernel_rfl) ?_;have F0:=fun n:KW w3=>kept_cell f0 n
 have F1:=fun n:KW w3=>kept_cell f1 n
 have F2:=fun n:KW w3=>kept_cell f2 n
 have F3:=fun n:KW w3=>kept_cell f3 n
 have F4:=fun n:KW w3=>kept_cell f4 n
 have K0:=fun n:KW w3=>kept_cell k0 n
 clear g0 g1 g2 g3 g4 g5 g6 f0 f1 f2 f3 f4 k0;have HL:=zI (fun n:KW w3=>kept_call (HX.out n.w (Ct C1.out n.h)));repeat (go_big_quiet_step (with_reducible exact HL.out _))
 refine wpQuiet_nil ?_;rintro w4 ⟨n,rfl⟩;have C4:=zI (Ct C1.out n.h);obtain ⟨w5,hw5⟩:∃ w5,w5=n.w:=⟨_,rfl⟩;rw[<-hw5] at C4 |-;clear hw5 F0 F1 F2 F3 F4 K0;go_wp2
 go_ret;exact ⟨by first | rfl | (cases vx<;>rfl),C4.out⟩
theorem ev_16 (w:World) (A B:Option Addr) (c d:Nat) (l:List Nm.Inst) (s:SC) (k:Nat) (x:Nm.Inst) (hl:l.length<=64) (hx:l[k]?=some x) (hr:Rd w w.heap.size A (l.flatMap instV7)) (hi:Rd w w.heap.size B (cellsI (shp l))) (hS:SOK w s) (ho:x.op=16) (vx vy:Bool) (ex ey:Nat) (hk1:1<=k) (hkid:Tr.kidsB (sg (shp l)) k=[(ex:Int),(ey:Int)]) (HX:∀ w',Chg (fun _=>False) w w'->Calls Tryz.prog 121 #[.slice A l.length c,.slice B l.length d,.int .i64 ex,.agg (sA s)] w' fun e w2=>e=.returned (.bool vx)/\Chg (fun _=>False) w' w2) (HY:∀ w',Chg (fun _=>False) w w'->Calls Tryz.prog 121 #[.slice A l.length c,.slice B l.length d,.int .i64 ey,.agg (sA s)] w' fun e w2=>e=.returned (.bool vy)/\Chg (fun _=>False) w' w2):Calls Tryz.prog 121 #[.slice A l.length c,.slice B l.length d,.int .i64 k,.agg (sA s)] w fun e w'=>e=.returned (.bool (vx && vy))/\Chg (fun _=>False) w w':=by
 have hk:k < l.length:=(List.getElem?_eq_some_iff.1 hx).1;have hop:=shp_sg hx;obtain ⟨h1,h2⟩:=cells2 w 134 83 (sA s) (iA x);have C0:=zI (chg2 w (.cells (sA s) 134) (.cells (iA x) 83));have HK:=zI (refKids_any _ B d (shp l) k (by rw[shp_len];exact hk) (fun _=>hk1) (by rw[shp_len];omega) (hi.later C0.out (fun _ h=>h.elim)));rw[shp_len] at HK;rw[hkid] at HK;obtain ⟨b0,o0,rfl,hb0,c0,c1,c2,c3,c4,c5,c6⟩:=ins_at hr hx;have HS:=zI (fun (w':World) (h:Chg (fun _=>False) w w')=>hS.later h);replace c0:=kal (o:=.cells (sA s) 134) c0;replace c1:=kal (o:=.cells (sA s) 134) c1;replace c2:=kal (o:=.cells (sA s) 134) c2;replace c3:=kal (o:=.cells (sA s) 134) c3;replace c4:=kal (o:=.cells (sA s) 134) c4;replace c5:=kal (o:=.cells (sA s) 134) c5;replace c6:=kal (o:=.cells (sA s) 134) c6;obtain ⟨w2,hw2⟩:∃ w2,w2=(w.alloc (.cells (sA s) 134)).alloc (.cells (iA x) 83):=⟨_,rfl⟩;rw[<-hw2] at HK C0 h1 h2;replace h1:=zI h1;replace h2:=zI h2;replace HX:=zI HX;unfold sA at HX;replace HY:=zI HY;unfold sA at HY;unfold sA iA at hw2;unfold sA at c0 c1 c2 c3 c4 c5 c6 |-;clear hr hi hkid hb0 hS hop;rw[ho] at c0 hw2;go_enter Tryz.func121,Tryz.ntmps121;go_wp2_with (go_at_call 66;rw[<-hw2];refine HK.out.mono ?_;rintro e w3 ⟨A1,n1,rfl,hm1,hR1,hC1,hF1⟩;have C1:=zI (Ct C0.out hC1);have hb1:=zI (h1.out.chg hC1 (fun h=>h));have hb2:=zI (h2.out.chg hC1 (fun h=>h));obtain ⟨f0,f1,f2,f3,f4⟩:=scells hb1.out;obtain ⟨g0,g1,g2,g3,g4,g5,g6⟩:=icells hb2.out;have hkc:=hR1.plain (by simp[intsV]);obtain ⟨b1,o1,rfl,_,k12⟩:=hkc;have k0:=k12 0 _ rfl;rw[Nat.add_zero] at k0;have k1:=k12 1 _ rfl;clear hR1 hm1 k12;rw[ho] at g0;clear hF1 HK C0 h1 h2 hw2 c0 c1 c2 c3 c4 c5 c6)
 cases vx with
 | false=>
  refine wp_region_kept w3 (Chg.refl _ _) (by kernel_rfl) (by kernel_rfl) ?_;have F0:=fun n:KW w3=>kept_cell f0 n
  have F1:=fun n:KW w3=>kept_cell f1 n
  have F2:=fun n:KW w3=>kept_cell f2 n
  have F3:=fun n:KW w3=>kept_cell f3 n
  have F4:=fun n:KW w3=>kept_cell f4 n
  have K0:=fun n:KW w3=>kept_cell k0 n
  have K1:=fun n:KW w3=>kept_cell k1 n
  clear g0 g1 g2 g3 g4 g5 g6 f0 f1 f2 f3 f4 k0 k1;have HL:=zI (fun n:KW w3=>kept_call (HX.out n.w (Ct C1.out n.h)));have HR:=zI (fun n:KW w3=>kept_call (HY.out n.w (Ct C1.out n.h)));repeat (go_big_quiet_step (first | with_reducible exact HL.out _ | with_reducible exact HR.out _))
  refine wpQuiet_nil ?_;rintro w4 ⟨n,rfl⟩;have C4:=zI (Ct C1.out n.h);obtain ⟨w5,hw5⟩:∃ w5,w5=n.w:=⟨_,rfl⟩;rw[<-hw5] at C4 |-;clear hw5 F0 F1 F2 F3 F4 K0 K1;go_wp2
  go_ret;exact ⟨by first | rfl | (cases vy<;>rfl),C4.out⟩
 | true=>
  refine wp_region_kept w3 (Chg.refl _ _) (by kernel_rfl) (by kernel_rfl) ?_;have F0:=fun n:KW w3=>kept_cell f0 n
  have F1:=fun n:KW w3=>kept_cell f1 n
  have F2:=fun n:KW w3=>kept_cell f2 n
  have F3:=fun n:KW w3=>kept_cell f3 n
  have F4:=fun n:KW w3=>kept_cell f4 n
  have K0:=fun n:KW w3=>kept_cell k0 n
  have K1:=fun n:KW w3=>kept_cell k1 n
  clear g0 g1 g2 g3 g4 g5 g6 f0 f1 f2 f3 f4 k0 k1;have HL:=zI (fun n:KW w3=>kept_call (HX.out n.w (Ct C1.out n.h)));have HR:=zI (fun n:KW w3=>kept_call (HY.out n.w (Ct C1.out n.h)));repeat (go_big_quiet_step (first | with_reducible exact HL.out _ | with_reducible exact HR.out _))
  refine wpQuiet_nil ?_;rintro w4 ⟨n,rfl⟩;have C4:=zI (Ct C1.out n.h);obtain ⟨w5,hw5⟩:∃ w5,w5=n.w:=⟨_,rfl⟩;rw[<-hw5] at C4 |-;clear hw5 F0 F1 F2 F3 F4 K0 K1;go_wp2
  go_ret;exact ⟨by first | rfl | (cases vy<;>rfl),C4.out⟩
theorem ev_17 (w:World) (A B:Option Addr) (c d:Nat) (l:List Nm.Inst) (s:SC) (k:Nat) (x:Nm.Inst) (hl:l.length<=64) (hx:l[k]?=some x) (hr:Rd w w.heap.size A (l.flatMap instV7)) (hi:Rd w w.heap.size B (cellsI (shp l))) (hS:SOK w s) (ho:x.op=17) (vx vy:Bool) (ex ey:Nat) (hk1:1<=k) (hkid:Tr.kidsB (sg (shp l)) k=[(ex:Int),(ey:Int)]) (HX:∀ w',Chg (fun _=>False) w w'->Calls Tryz.prog 121 #[.slice A l.length c,.slice B l.length d,.int .i64 ex,.agg (sA s)] w' fun e w2=>e=.returned (.bool vx)/\Chg (fun _=>False) w' w2) (HY:∀ w',Chg (fun _=>False) w w'->Calls Tryz.prog 121 #[.slice A l.length c,.slice B l.length d,.int .i64 ey,.agg (sA s)] w' fun e w2=>e=.returned (.bool vy)/\Chg (fun _=>False) w' w2):Calls Tryz.prog 121 #[.slice A l.length c,.slice B l.length d,.int .i64 k,.agg (sA s)] w fun e w'=>e=.returned (.bool (vx || vy))/\Chg (fun _=>False) w w':=by
 have hk:k < l.length:=(List.getElem?_eq_some_iff.1 hx).1;have hop:=shp_sg hx;obtain ⟨h1,h2⟩:=cells2 w 134 83 (sA s) (iA x);have C0:=zI (chg2 w (.cells (sA s) 134) (.cells (iA x) 83));have HK:=zI (refKids_any _ B d (shp l) k (by rw[shp_len];exact hk) (fun _=>hk1) (by rw[shp_len];omega) (hi.later C0.out (fun _ h=>h.elim)));rw[shp_len] at HK;rw[hkid] at HK;obtain ⟨b0,o0,rfl,hb0,c0,c1,c2,c3,c4,c5,c6⟩:=ins_at hr hx;have HS:=zI (fun (w':World) (h:Chg (fun _=>False) w w')=>hS.later h);replace c0:=kal (o:=.cells (sA s) 134) c0;replace c1:=kal (o:=.cells (sA s) 134) c1;replace c2:=kal (o:=.cells (sA s) 134) c2;replace c3:=kal (o:=.cells (sA s) 134) c3;replace c4:=kal (o:=.cells (sA s) 134) c4;replace c5:=kal (o:=.cells (sA s) 134) c5;replace c6:=kal (o:=.cells (sA s) 134) c6;obtain ⟨w2,hw2⟩:∃ w2,w2=(w.alloc (.cells (sA s) 134)).alloc (.cells (iA x) 83):=⟨_,rfl⟩;rw[<-hw2] at HK C0 h1 h2;replace h1:=zI h1;replace h2:=zI h2;replace HX:=zI HX;unfold sA at HX;replace HY:=zI HY;unfold sA at HY;unfold sA iA at hw2;unfold sA at c0 c1 c2 c3 c4 c5 c6 |-;clear hr hi hkid hb0 hS hop;rw[ho] at c0 hw2;go_enter Tryz.func121,Tryz.ntmps121;go_wp2_with (go_at_call 66;rw[<-hw2];refine HK.out.mono ?_;rintro e w3 ⟨A1,n1,rfl,hm1,hR1,hC1,hF1⟩;have C1:=zI (Ct C0.out hC1);have hb1:=zI (h1.out.chg hC1 (fun h=>h));have hb2:=zI (h2.out.chg hC1 (fun h=>h));obtain ⟨f0,f1,f2,f3,f4⟩:=scells hb1.out;obtain ⟨g0,g1,g2,g3,g4,g5,g6⟩:=icells hb2.out;have hkc:=hR1.plain (by simp[intsV]);obtain ⟨b1,o1,rfl,_,k12⟩:=hkc;have k0:=k12 0 _ rfl;rw[Nat.add_zero] at k0;have k1:=k12 1 _ rfl;clear hR1 hm1 k12;rw[ho] at g0;clear hF1 HK C0 h1 h2 hw2 c0 c1 c2 c3 c4 c5 c6)
 cases vx with
 | false=>
  refine wp_region_kept w3 (Chg.refl _ _) (by kernel_rfl) (by kernel_rfl) ?_;have F0:=fun n:KW w3=>kept_cell f0 n
  have F1:=fun n:KW w3=>kept_cell f1 n
  have F2:=fun n:KW w3=>kept_cell f2 n
  have F3:=fun n:KW w3=>kept_cell f3 n
  have F4:=fun n:KW w3=>kept_cell f4 n
  have K0:=fun n:KW w3=>kept_cell k0 n
  have K1:=fun n:KW w3=>kept_cell k1 n
  clear g0 g1 g2 g3 g4 g5 g6 f0 f1 f2 f3 f4 k0 k1;have HL:=zI (fun n:KW w3=>kept_call (HX.out n.w (Ct C1.out n.h)));have HR:=zI (fun n:KW w3=>kept_call (HY.out n.w (Ct C1.out n.h)));repeat (go_big_quiet_step (first | with_reducible exact HL.out _ | with_reducible exact HR.out _))
  refine wpQuiet_nil ?_;rintro w4 ⟨n,rfl⟩;have C4:=zI (Ct C1.out n.h);obtain ⟨w5,hw5⟩:∃ w5,w5=n.w:=⟨_,rfl⟩;rw[<-hw5] at C4 |-;clear hw5 F0 F1 F2 F3 F4 K0 K1;go_wp2
  go_ret;exact ⟨by first | rfl | (cases vy<;>rfl),C4.out⟩
 | true=>
  refine wp_region_kept w3 (Chg.refl _ _) (by kernel_rfl) (by kernel_rfl) ?_;have F0:=fun n:KW w3=>kept_cell f0 n
  have F1:=fun n:KW w3=>kept_cell f1 n
  have F2:=fun n:KW w3=>kept_cell f2 n
  have F3:=fun n:KW w3=>kept_cell f3 n
  have F4:=fun n:KW w3=>kept_cell f4 n
  have K0:=fun n:KW w3=>kept_cell k0 n
  have K1:=fun n:KW w3=>kept_cell k1 n
  clear g0 g1 g2 g3 g4 g5 g6 f0 f1 f2 f3 f4 k0 k1;have HL:=zI (fun n:KW w3=>kept_call (HX.out n.w (Ct C1.out n.h)));have HR:=zI (fun n:KW w3=>kept_call (HY.out n.w (Ct C1.out n.h)));repeat (go_big_quiet_step (first | with_reducible exact HL.out _ | with_reducible exact HR.out _))
  refine wpQuiet_nil ?_;rintro w4 ⟨n,rfl⟩;have C4:=zI (Ct C1.out n.h);obtain ⟨w5,hw5⟩:∃ w5,w5=n.w:=⟨_,rfl⟩;rw[<-hw5] at C4 |-;clear hw5 F0 F1 F2 F3 F4 K0 K1;go_wp2
  go_ret;exact ⟨by first | rfl | (cases vy<;>rfl),C4.out⟩
theorem ev_18 (w:World) (A B:Option Addr) (c d:Nat) (l:List Nm.Inst) (s:SC) (k:Nat) (x:Nm.Inst) (hl:l.length<=64) (hx:l[k]?=some x) (hr:Rd w w.heap.size A (l.flatMap instV7)) (hi:Rd w w.heap.size B (cellsI (shp l))) (hS:SOK w s) (ho:x.op=18) (vx vy:Bool) (ex ey:Nat) (hk1:1<=k) (hkid:Tr.kidsB (sg (shp l)) k=[(ex:Int),(ey:Int)]) (HX:∀ w',Chg (fun _=>False) w w'->Calls Tryz.prog 121 #[.slice A l.length c,.slice B l.length d,.int .i64 ex,.agg (sA s)] w' fun e w2=>e=.returned (.bool vx)/\Chg (fun _=>False) w' w2) (HY:∀ w',Chg (fun _=>False) w w'->Calls Tryz.prog 121 #[.slice A l.length c,.slice B l.length d,.int .i64 ey,.agg (sA s)] w' fun e w2=>e=.returned (.bool vy)/\Chg (fun _=>False) w' w2):Calls Tryz.prog 121 #[.slice A l.length c,.slice B l.length d,.int .i64 k,.agg (sA s)] w fun e w'=>e=.returned (.bool (!vx || vy))/\Chg (fun _=>False) w w':=by
 have hk:k < l.length:=(List.getElem?_eq_some_iff.1 hx).1;have hop:=shp_sg hx;obtain ⟨h1,h2⟩:=cells2 w 134 83 (sA s) (iA x);have C0:=zI (chg2 w (.cells (sA s) 134) (.cells (iA x) 83));have HK:=zI (refKids_any _ B d (shp l) k (by rw[shp_len];exact hk) (fun _=>hk1) (by rw[shp_len];omega) (hi.later C0.out (fun _ h=>h.elim)));rw[shp_len] at HK;rw[hkid] at HK;obtain ⟨b0,o0,rfl,hb0,c0,c1,c2,c3,c4,c5,c6⟩:=ins_at hr hx;have HS:=zI (fun (w':World) (h:Chg (fun _=>False) w w')=>hS.later h);replace c0:=kal (o:=.cells (sA s) 134) c0;replace c1:=kal (o:=.cells (sA s) 134) c1;replace c2:=kal (o:=.cells (sA s) 134) c2;replace c3:=kal (o:=.cells (sA s) 134) c3;replace c4:=kal (o:=.cells (sA s) 134) c4;replace c5:=kal (o:=.cells (sA s) 134) c5;replace c6:=kal (o:=.cells (sA s) 134) c6;obtain ⟨w2,hw2⟩:∃ w2,w2=(w.alloc (.cells (sA s) 134)).alloc (.cells (iA x) 83):=⟨_,rfl⟩;rw[<-hw2] at HK C0 h1 h2;replace h1:=zI h1;replace h2:=zI h2;replace HX:=zI HX;unfold sA at HX;replace HY:=zI HY;unfold sA at HY;unfold sA iA at hw2;unfold sA at c0 c1 c2 c3 c4 c5 c6 |-;clear hr hi hkid hb0 hS hop;rw[ho] at c0 hw2;go_enter Tryz.func121,Tryz.ntmps121;go_wp2_with (go_at_call 66;rw[<-hw2];refine HK.out.mono ?_;rintro e w3 ⟨A1,n1,rfl,hm1,hR1,hC1,hF1⟩;have C1:=zI (Ct C0.out hC1);have hb1:=zI (h1.out.chg hC1 (fun h=>h));have hb2:=zI (h2.out.chg hC1 (fun h=>h));obtain ⟨f0,f1,f2,f3,f4⟩:=scells hb1.out;obtain ⟨g0,g1,g2,g3,g4,g5,g6⟩:=icells hb2.out;have hkc:=hR1.plain (by simp[intsV]);obtain ⟨b1,o1,rfl,_,k12⟩:=hkc;have k0:=k12 0 _ rfl;rw[Nat.add_zero] at k0;have k1:=k12 1 _ rfl;clear hR1 hm1 k12;rw[ho] at g0;clear hF1 HK C0 h1 h2 hw2 c0 c1 c2 c3 c4 c5 c6)
 cases vx with
 | false=>
  refine wp_region_kept w3 (Chg.refl _ _) (by kernel_rfl) (by kernel_rfl) ?_;have F0:=fun n:KW w3=>kept_cell f0 n
  have F1:=fun n:KW w3=>kept_cell f1 n
  have F2:=fun n:KW w3=>kept_cell f2 n
  have F3:=fun n:KW w3=>kept_cell f3 n
  have F4:=fun n:KW w3=>kept_cell f4 n
  have K0:=fun n:KW w3=>kept_cell k0 n
  have K1:=fun n:KW w3=>kept_cell k1 n
  clear g0 g1 g2 g3 g4 g5 g6 f0 f1 f2 f3 f4 k0 k1;have HL:=zI (fun n:KW w3=>kept_call (HX.out n.w (Ct C1.out n.h)));have HR:=zI (fun n:KW w3=>kept_call (HY.out n.w (Ct C1.out n.h)));repeat (go_big_quiet_step (first | with_reducible exact HL.out _ | with_reducible exact HR.out _))
  refine wpQuiet_nil ?_;rintro w4 ⟨n,rfl⟩;have C4:=zI (Ct C1.out n.h);obtain ⟨w5,hw5⟩:∃ w5,w5=n.w:=⟨_,rfl⟩;rw[<-hw5] at C4 |-;clear hw5 F0 F1 F2 F3 F4 K0 K1;go_wp2
  go_ret;exact ⟨by first | rfl | (cases vy<;>rfl),C4.out⟩
 | true=>
  refine wp_region_kept w3 (Chg.refl _ _) (by kernel_rfl) (by kernel_rfl) ?_;have F0:=fun n:KW w3=>kept_cell f0 n
  have F1:=fun n:KW w3=>kept_cell f1 n
  have F2:=fun n:KW w3=>kept_cell f2 n
  have F3:=fun n:KW w3=>kept_cell f3 n
  have F4:=fun n:KW w3=>kept_cell f4 n
  have K0:=fun n:KW w3=>kept_cell k0 n
  have K1:=fun n:KW w3=>kept_cell k1 n
  clear g0 g1 g2 g3 g4 g5 g6 f0 f1 f2 f3 f4 k0 k1;have HL:=zI (fun n:KW w3=>kept_call (HX.out n.w (Ct C1.out n.h)));have HR:=zI (fun n:KW w3=>kept_call (HY.out n.w (Ct C1.out n.h)));repeat (go_big_quiet_step (first | with_reducible exact HL.out _ | with_reducible exact HR.out _))
  refine wpQuiet_nil ?_;rintro w4 ⟨n,rfl⟩;have C4:=zI (Ct C1.out n.h);obtain ⟨w5,hw5⟩:∃ w5,w5=n.w:=⟨_,rfl⟩;rw[<-hw5] at C4 |-;clear hw5 F0 F1 F2 F3 F4 K0 K1;go_wp2
  go_ret;exact ⟨by first | rfl | (cases vy<;>rfl),C4.out⟩
end
end Go.Proofs.YthohgagkjnbkbaaGreat
