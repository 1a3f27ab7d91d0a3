/- FragTrue, part 15: FrGrp2. Each theorem says what a function does, or a plain fact, under its own premises alone. -/
import Derived.Test.YthohgagkjnbkbaaGreatP14
set_option maxRecDepth 100000
set_option maxHeartbeats 16000000
namespace Go.Proofs.YthohgagkjnbkbaaGreat
section
open Go.RowKit
structure MX where
 st:List (ByteArray × Int)
 evS:List (List Int)
 guI:List (List Nm.Inst)
 miI:List (List Nm.Inst)
 ord:List (Bool × Int)
 ini:List Int
def stC (x:ByteArray × Int):List Value:=[.string x.1,.int .i64 x.2]
def orC (x:Bool × Int):List Value:=[.bool x.1,.int .i64 x.2]
structure XOK (w:World) (m:MC) (X:MX):Prop where
 mo:MOK w m
 stN:m.nS=X.st.length
 st:Rd w w.heap.size m.aS (X.st.flatMap stC)
 evN:X.evS.length=m.ev.length
 ev:∀ (i:Nat) (e:EvC) (l:List Int),m.ev[i]?=some e->X.evS[i]?=some l->e.sn=l.length/\l.length<=100/\Rd w w.heap.size e.sa (intsV l)
 guN:X.guI.length=m.gu.length
 gu:∀ (i:Nat) (g:GuC) (l:List Nm.Inst),m.gu[i]?=some g->X.guI[i]?=some l->g.il=l.length/\l.length<=100/\Rd w w.heap.size g.ia (l.flatMap instV7)
 miN:X.miI.length=m.mi.length
 mi:∀ (i:Nat) (g:MiC) (l:List Nm.Inst),m.mi[i]?=some g->X.miI[i]?=some l->g.il=l.length/\l.length<=100/\Rd w w.heap.size g.ia (l.flatMap instV7)
 ordN:m.nO=X.ord.length
 ord:Rd w w.heap.size m.aO (X.ord.flatMap orC)
 iniN:m.nI=X.ini.length
 ini:Rd w w.heap.size m.aI (intsV X.ini)
 few:X.st.length<=100/\m.ev.length<=100/\m.gu.length<=100/\m.mi.length<=100/\X.ord.length<=4000000/\X.ini.length<=100/\m.nA<=100/\m.nU<=100/\m.ro.length<=100/\m.so.length<=100
theorem XOK.later {w w':World} {m:MC} {X:MX} (h:XOK w m X) (hc:Chg (fun _=>False) w w'):XOK w' m X:=
 ⟨h.mo.later hc,h.stN,h.st.later hc (fun _ h=>h.elim),h.evN,fun i e l h1 h2=>let h3:=h.ev i e l h1 h2;⟨h3.1,h3.2.1,h3.2.2.later hc (fun _ h=>h.elim)⟩,h.guN,fun i e l h1 h2=>let h3:=h.gu i e l h1 h2;⟨h3.1,h3.2.1,h3.2.2.later hc (fun _ h=>h.elim)⟩,
  h.miN,fun i e l h1 h2=>let h3:=h.mi i e l h1 h2;⟨h3.1,h3.2.1,h3.2.2.later hc (fun _ h=>h.elim)⟩,h.ordN,h.ord.later hc (fun _ h=>h.elim),h.iniN,h.ini.later hc (fun _ h=>h.elim),h.few⟩
def par (X:MX):List Int:=X.st.map (·.2)
theorem par_take {X:MX} {k:Nat} {x:ByteArray × Int} (h:X.st[k]?=some x):(par X).take (k+1)=(par X).take k++[x.2]:=by
 obtain ⟨hk,rfl⟩:=List.getElem?_eq_some_iff.1 h;have:k < (par X).length:=by simpa [par] using hk
 rw[List.take_succ_eq_append_getElem this];simp[par]
theorem parents_any (w:World) (m:MC) (X:MX) (hX:XOK w m X):Calls Tryz.prog 22 #[.agg (mA m)] w fun e w'=>∃ A c,e=.returned (.slice A (par X).length c)/\Rd w' w'.heap.size A (intsV (par X))/\Chg (fun _=>False) w w':=by
 obtain ⟨i1,hi1,z10,z11,z12⟩:=info_3 int_info;have hb:=Blk.new w 32 (mA m);have C0:=zI ((Chg.refl (fun _=>False) w).alloc (.cells (mA m) 32));have hX1:=hX.later C0.out;obtain ⟨w1,hw1⟩:∃ w1,w1=w.alloc (.cells (mA m) 32):=⟨_,rfl⟩;rw[<-hw1] at hb C0 hX1;have HM:=zI (fun (w':World) (h:Chg (fun _=>False) w1 w')=>mcells (hb.chg h (fun h=>h)));have HX:=zI (fun (w':World) (h:Chg (fun _=>False) w1 w')=>hX1.later h);have hpl:Hid ((par X).length=X.st.length):=by show _=_;simp[par]
 have hfew:=hX.few.1;have hsn:=zI hX.stN;clear hb hX hX1;unfold mA at hw1 |-;rw[hsn.out] at hw1 |-;go_enter Tryz.func22,Tryz.ntmps22;go_wp2_with fail
 rw[<-hw1];clear hw1;go_loopw [4,3] (fun x v wr=>∃ k:Nat,k<=X.st.length/\x=.int .i64 k/\Hid (wr.ownsRow w1.heap.size 3 1 v k (intsV ((par X).take k)))/\Hid (Chg (fun _=>False) w1 wr)) (fun x _ _=>X.st.length - (intOf x).toNat)
 case atStart=>exact ⟨0,Nat.zero_le _,rfl,zI (World.ownsRow_nil _ _ _ _),Chg.refl _ _⟩
 case round=>
  obtain ⟨k,hk,rfl,hO,hC⟩:=hrel;obtain ⟨-,-,-,-,e4,-,-,-,-,-⟩:=HM.out wr hC.out;rw[hsn.out] at e4;by_cases hlt:k < X.st.length
  ·obtain ⟨x,hx⟩:∃ x,X.st[k]?=some x:=⟨_,gG hlt⟩;obtain ⟨b0,o0,hA,_,hc⟩:=row_at (f:=stC) (C:=2) (fun _=>rfl) (by omega) (HX.out wr hC.out).st hx;have c1:=hc 1 _ rfl;have hs:=zI (par_take hx);rw[hA] at e4;clear hc hx hA;go_wp2_with (at_builtin;refine wpList_append_own _ rfl (.tmp 12) (.tmp 19) 52 rfl w1.heap.size 3 i1 _ 1 8 Tryz.underlying52 hi1 z10 z11 z12 rfl (by omega) u3 k (intsV ((par X).take k)) rfl (by exact hO.out.alloc _) ⟨wr.heap.size,0,none⟩ 1 1 [.int .i64 x.2] rfl rfl (by exact all_new (Blk.new wr 3 #[.int .i64 x.2])) (by intro u hu;simp at hu;subst hu;rfl) (by unfold maxLen;omega) (by omega) (by have:=hC.out.size;simp;omega) ?_;intro v' w5 hown3 hg3 hat3;have HO3:=zI hown3;have HC3:=zI (app1 hO.out hC.out _ hg3);clear hown3 hg3 hat3)
   go_roundw
   case rel=>exact ⟨k+1,by omega,by go_num,zI (by rw[hs.out,intsV_append];exact HO3.out),HC3⟩
   case measure=>(simp[intOf]<;>omega)
  ·obtain rfl:k=X.st.length:=by omega
   have hO2:=hO.out;rw[List.take_of_length_le (by rw[hpl.out];exact Nat.le_refl _)] at hO2;obtain ⟨A,c,rfl,hqc,hcm⟩:=own_slice hO2;have hR:=zI (own_rd hO2);have C9:=zI (Ct C0.out hC.out);clear hqc hcm hO hO2;go_wp2
   go_ret;exact ⟨A,c,by rw[hpl.out];rfl,hR.out,C9.out⟩
def cnF (X:MX) (g y:Nat):List Nm.Inst:=if y < g then X.guI.getD y [] else X.miI.getD (y - g) []
theorem cond_any (w:World) (m:MC) (X:MX) (y:Nat) (hX:XOK w m X) (hy:y < m.gu.length+m.mi.length):Calls Tryz.prog 76 #[.agg (mA m),.int .i64 y] w fun e w'=>(∃ A c,e=.returned (.slice A (cnF X m.gu.length y).length c)/\(cnF X m.gu.length y).length<=100/\Rd w' w'.heap.size A ((cnF X m.gu.length y).flatMap instV7))/\Chg (fun _=>False) w w':=by
 have hb:=Blk.new w 32 (mA m);have C0:=zI ((Chg.refl (fun _=>False) w).alloc (.cells (mA m) 32));obtain ⟨-,-,-,-,-,-,e6,e7,-,-⟩:=mcells hb;have hX2:=hX.later C0.out;have hg:=hX.few.2.2.1;have hm:=hX.few.2.2.2.1;clear hb hX;by_cases hlt:y < m.gu.length
 ·obtain ⟨x,hx⟩:∃ x,m.gu[y]?=some x:=⟨_,gG hlt⟩;obtain ⟨l,hl⟩:∃ l,X.guI[y]?=some l:=⟨_,gG (by rw[hX2.guN];exact hlt)⟩;obtain ⟨b1,o1,hA,_,hc⟩:=row_at (f:=guC) (C:=3) (fun _=>rfl) (by omega) hX2.mo.gu hx;have c0:=hc 2 _ rfl;have hv:Hid (cnF X m.gu.length y=l):=by show _=_;unfold cnF;rw[if_pos hlt,List.getD_eq_getElem?_getD,hl];rfl
  have hq:=hX2.gu y x l hx hl;have hql:=hq.1;rw[hql] at c0;replace hq:=zI hq.2;have e6':=e6.trans (show _=some (Value.slice (some ⟨b1,o1,none⟩) m.gu.length m.cG) by rw[hA]);clear e6 e7 hc hx hA hX2 hl hql;unfold mA at e6' C0 c0 hq |-;go_enter Tryz.func76,Tryz.ntmps76;go_wp2
  go_ret;rw[hv.out];exact ⟨⟨_,_,rfl,hq.out.1,hq.out.2⟩,C0.out⟩
 ·obtain ⟨k,rfl⟩:∃ k,y=m.gu.length+k:=⟨y - m.gu.length,by omega⟩;have hk:k < m.mi.length:=by omega
  obtain ⟨x,hx⟩:∃ x,m.mi[k]?=some x:=⟨_,gG hk⟩;obtain ⟨l,hl⟩:∃ l,X.miI[k]?=some l:=⟨_,gG (by rw[hX2.miN];exact hk)⟩;obtain ⟨b1,o1,hA,_,hc⟩:=row_at (f:=miC) (C:=5) (fun _=>rfl) (by omega) hX2.mo.mi hx;have c0:=hc 3 _ rfl;have hv:Hid (cnF X m.gu.length (m.gu.length+k)=l):=by show _=_;unfold cnF;rw[if_neg hlt,show m.gu.length+k - m.gu.length=k by omega,List.getD_eq_getElem?_getD,hl];rfl
  have hq:=hX2.mi k x l hx hl;have hql:=hq.1;rw[hql] at c0;replace hq:=zI hq.2;have e7':=e7.trans (show _=some (Value.slice (some ⟨b1,o1,none⟩) m.mi.length m.cM) by rw[hA]);have d1:decide (((m.gu.length+k:Nat):Int) < (m.gu.length:Int))=false:=by rw[dF];omega
  have hw:IntKind.i64.wrap (((m.gu.length+k:Nat):Int) - (m.gu.length:Int))=k:=by rw[IntKind.wrap_i64];omega
  obtain ⟨yy,hyy⟩:∃ yy:Int,yy=((m.gu.length+k:Nat):Int):=⟨_,rfl⟩;rw[<-hyy] at d1 hw |-;clear e7 hc hx hA hX2 hlt hy hyy hl hql;unfold mA at e6 e7' C0 c0 hq |-;go_enter Tryz.func76,Tryz.ntmps76;go_wp2
  go_ret;rw[hv.out];exact ⟨⟨_,_,rfl,hq.out.1,hq.out.2⟩,C0.out⟩
def miS (m:MC) (n:Int):Int:=match m.mi[n.toNat]? with
 | some k=>k.stage
 | none=>0
def byF (m:MC) (X:MX) (x:Nm.Inst) (y:Nat):Bool:=
 if x.op=9 then (stF m y ==x.n) || (!decide (y < m.gu.length) && isF (par X) (stF m y) x.n)
 else if x.op=10/\¬ y < m.gu.length then ((y:Int) - m.gu.length ==x.n)
 else (x.op ==10) && (decide (0<=x.n) && (decide (x.n < m.mi.length) && (miS m x.n ==stF m y)))
theorem beq_t {a b:Int} (h:a=b):(a ==b)=true:=by rw[beq_iff_eq];exact h
theorem beq_f {a b:Int} (h:a ≠ b):(a ==b)=false:=by rw[bF];exact h
theorem by_A1 (w:World) (m:MC) (X:MX) (x:Nm.Inst) (y:Nat) (hX:XOK w m X) (hy:y < m.gu.length+m.mi.length) (ho:x.op=9) (he:(stF m y ==x.n)=true) (hyl:y < m.gu.length):Calls Tryz.prog 77 #[.agg (mA m),.agg (iA x),.int .i64 y] w fun e w'=>e=.returned (.bool true)/\Chg (fun _=>False) w w':=by
 obtain ⟨h1,h2⟩:=cells2 w 32 83 (mA m) (iA x);have C0:=zI (chg2 w (.cells (mA m) 32) (.cells (iA x) 83));have hX1:=hX.later C0.out;have hg:=hX.few.2.2.1;have hm:=hX.few.2.2.2.1;obtain ⟨-,-,-,-,-,-,e6,e7,-,-⟩:=mcells h1;obtain ⟨g0,-,-,-,-,g5,-⟩:=icells h2;obtain ⟨w1,hw1⟩:∃ w1,w1=(w.alloc (.cells (mA m) 32)).alloc (.cells (iA x) 83):=⟨_,rfl⟩;rw[<-hw1] at h1 h2 C0 hX1;have HM:=zI (fun (w':World) (h:Chg (fun _=>False) w1 w')=>mcells (h1.chg h (fun h=>h)));have HI:=zI (fun (w':World) (h:Chg (fun _=>False) w1 w')=>icells (h2.chg h (fun h=>h)));have HX:=zI (fun (w':World) (h:Chg (fun _=>False) w1 w')=>hX1.later h);have HS:=zI (fun (w':World) (h:Chg (fun _=>False) w1 w')=>stage_any w' m y (hX1.later h).mo (by omega) hy);have hpl:(par X).length<=100:=by have:=hX.few.1;simpa [par] using this
 obtain ⟨st,hst⟩:∃ st,st=stF m y:=⟨_,rfl⟩;rw[<-hst] at he HS;have dy:decide ((y:Int) < (m.gu.length:Int))=true:=by rw[dT];omega
 have heq:=he;rw[ho] at g0;clear h1 h2 hX hX1 hst;unfold mA iA at hw1 e6 e7 g0 g5 |-;rw[ho] at hw1 |-;go_enter Tryz.func77,Tryz.ntmps77;go_wp2_with fail
 rw[<-hw1];clear hw1 e6 e7 g0 g5;refine region_mv (by kernel_rfl) [some 16,some 17,some 18,some 19,some 20,some 21,some 22,some 23,some 24,some 25,some 26,some 27,some 28,some 29,some 30,some 31,some 32,some 33,some 34,some 35,some 6] [16,17,18,19,20,21,22,23,24,25,26,27,28,29,30,31,32,33,34,35,6] [.is (.agg #[.slice m.aA m.nA m.cA,.slice m.aI m.nI m.cI,.slice m.aU m.nU m.cU,.slice m.aR m.ro.length m.cR,.slice m.aS m.nS m.cS,.slice m.aE m.ev.length m.cE,.slice m.aG m.gu.length m.cG,.slice m.aM m.mi.length m.cM,.slice m.aD m.so.length m.cD,.slice m.aO m.nO m.cO]),.is (.int .i64 y),.is (.int .i64 st),.is (.pointer (some ⟨w.heap.size+1,5,none⟩)),.is (.int .i64 x.n),.is (.bool true),.is (.bool true),.is (undef),.is (undef),.is (undef),.is (undef),.is (undef),.is (undef),.is (undef),.is (undef),.is (undef),.is (undef),.is (undef),.is (undef),.is (.bool true),.is (.bool true)] 1000 (fun _=>False) (by kernel_rfl) (by kernel_rfl) ?_ ?_
 ·refine ⟨?_,?_,?_,?_,?_,?_,?_,?_,?_,?_,?_,?_,?_,?_,?_,?_,?_,?_,?_,?_,?_,trivial⟩
  ·intro f a wz _ hout hC _ _ _;have x3:(a.tmps[3]?).getD undef=.pointer (some ⟨w.heap.size,0,none⟩):=hout 3 (by rfl);exact mv_is rfl rfl (by simp[execOp,go_sem,Result.andThen,x3,(HM.out wz hC).1,(HM.out wz hC).2.1,(HM.out wz hC).2.2.1,(HM.out wz hC).2.2.2.1,(HM.out wz hC).2.2.2.2.1,(HM.out wz hC).2.2.2.2.2.1,(HM.out wz hC).2.2.2.2.2.2.1,(HM.out wz hC).2.2.2.2.2.2.2.1,(HM.out wz hC).2.2.2.2.2.2.2.2.1,(HM.out wz hC).2.2.2.2.2.2.2.2.2]) rfl (by simp)
  ·intro f a wz _ hout _ _ _ _;have x2:(a.tmps[2]?).getD undef=.int .i64 y:=hout 2 (by rfl);exact mv_is rfl rfl (by simp[execOp,go_sem,x2]) rfl (by simp)
  ·intro f a wz hin _ hC _ _ hd;have x16:(a.tmps[16]?).getD undef=.agg #[.slice m.aA m.nA m.cA,.slice m.aI m.nI m.cI,.slice m.aU m.nU m.cU,.slice m.aR m.ro.length m.cR,.slice m.aS m.nS m.cS,.slice m.aE m.ev.length m.cE,.slice m.aG m.gu.length m.cG,.slice m.aM m.mi.length m.cM,.slice m.aD m.so.length m.cD,.slice m.aO m.nO m.cO]:=(hin 16 (by rfl)).trans (hd 0 (by kernel_rfl));have x17:(a.tmps[17]?).getD undef=.int .i64 y:=(hin 17 (by rfl)).trans (hd 1 (by kernel_rfl));exact mv_calli (f:=78) (args:=#[.agg #[.slice m.aA m.nA m.cA,.slice m.aI m.nI m.cI,.slice m.aU m.nU m.cU,.slice m.aR m.ro.length m.cR,.slice m.aS m.nS m.cS,.slice m.aE m.ev.length m.cE,.slice m.aG m.gu.length m.cG,.slice m.aM m.mi.length m.cM,.slice m.aD m.so.length m.cD,.slice m.aO m.nO m.cO],.int .i64 y]) rfl rfl (by simp[go_sem,x16,x17]) rfl (by simp) (HS.out wz hC)
  ·intro f a wz _ hout _ _ _ _;have x4:(a.tmps[4]?).getD undef=.pointer (some ⟨w.heap.size+1,0,none⟩):=hout 4 (by rfl);exact mv_is rfl rfl (by simp[execOp,go_sem,Result.andThen,x4]) rfl (by simp)
  ·intro f a wz hin _ hC _ _ hd;have x19:(a.tmps[19]?).getD undef=.pointer (some ⟨w.heap.size+1,5,none⟩):=(hin 19 (by rfl)).trans (hd 3 (by kernel_rfl));exact mv_is rfl rfl (by simp[execOp,go_sem,Result.andThen,x19,(HI.out wz hC).2.2.2.2.2.1]) rfl (by simp)
  ·intro f a wz hin _ _ _ _ hd;have x18:(a.tmps[18]?).getD undef=.int .i64 st:=(hin 18 (by rfl)).trans (hd 2 (by kernel_rfl));have x20:(a.tmps[20]?).getD undef=.int .i64 x.n:=(hin 20 (by rfl)).trans (hd 4 (by kernel_rfl));exact mv_is rfl rfl (by simp[execOp,go_sem,x18,x20,heq]) rfl (by simp)
  ·intro f a wz hin _ _ _ _ hd;have x21:(a.tmps[21]?).getD undef=.bool true:=(hin 21 (by rfl)).trans (hd 5 (by kernel_rfl));exact mv_is rfl rfl (by simp[execOp,go_sem,x21]) rfl (by simp)
  ·intro f a wz hin _ _ _ _ hd;have xg:(a.tmps[22]?).getD undef=.bool true:=(hin 22 (by rfl)).trans (hd 6 (by kernel_rfl));exact mg_skip rfl (wanted_n rfl rfl xg rfl) rfl
  ·intro f a wz hin _ _ _ _ hd;have xg:(a.tmps[22]?).getD undef=.bool true:=(hin 22 (by rfl)).trans (hd 6 (by kernel_rfl));exact mg_skip rfl (wanted_n rfl rfl xg rfl) rfl
  ·intro f a wz hin _ _ _ _ hd;have xg:(a.tmps[22]?).getD undef=.bool true:=(hin 22 (by rfl)).trans (hd 6 (by kernel_rfl));exact mg_skip rfl (wanted_n rfl rfl xg rfl) rfl
  ·intro f a wz hin _ _ _ _ hd;have xg:(a.tmps[25]?).getD undef=undef:=(hin 25 (by rfl)).trans (hd 9 (by kernel_rfl));exact mg_skip rfl (wanted_u rfl rfl xg) rfl
  ·intro f a wz hin _ _ _ _ hd;have xg:(a.tmps[25]?).getD undef=undef:=(hin 25 (by rfl)).trans (hd 9 (by kernel_rfl));exact mg_skip rfl (wanted_u rfl rfl xg) rfl
  ·intro f a wz hin _ _ _ _ hd;have xg:(a.tmps[25]?).getD undef=undef:=(hin 25 (by rfl)).trans (hd 9 (by kernel_rfl));exact mg_skip rfl (wanted_u rfl rfl xg) rfl
  ·intro f a wz hin _ _ _ _ hd;have xg:(a.tmps[25]?).getD undef=undef:=(hin 25 (by rfl)).trans (hd 9 (by kernel_rfl));exact mg_skip rfl (wanted_u rfl rfl xg) rfl
  ·intro f a wz hin _ _ _ _ hd;have xg:(a.tmps[25]?).getD undef=undef:=(hin 25 (by rfl)).trans (hd 9 (by kernel_rfl));exact mg_skip rfl (wanted_u rfl rfl xg) rfl
  ·intro f a wz hin _ _ _ _ hd;have xg:(a.tmps[25]?).getD undef=undef:=(hin 25 (by rfl)).trans (hd 9 (by kernel_rfl));exact mg_skip rfl (wanted_u rfl rfl xg) rfl
  ·intro f a wz hin _ _ _ _ hd;have xg:(a.tmps[25]?).getD undef=undef:=(hin 25 (by rfl)).trans (hd 9 (by kernel_rfl));exact mg_skip rfl (wanted_u rfl rfl xg) rfl
  ·intro f a wz hin _ _ _ _ hd;have xg:(a.tmps[25]?).getD undef=undef:=(hin 25 (by rfl)).trans (hd 9 (by kernel_rfl));exact mg_skip rfl (wanted_u rfl rfl xg) rfl
  ·intro f a wz hin _ _ _ _ hd;have xg:(a.tmps[22]?).getD undef=.bool true:=(hin 22 (by rfl)).trans (hd 6 (by kernel_rfl));exact mg_skip rfl (wanted_n rfl rfl xg rfl) rfl
  ·intro f a wz hin _ _ _ _ hd;have x22:(a.tmps[22]?).getD undef=.bool true:=(hin 22 (by rfl)).trans (hd 6 (by kernel_rfl));have x34:(a.tmps[34]?).getD undef=undef:=(hin 34 (by rfl)).trans (hd 18 (by kernel_rfl));exact mv_is rfl rfl (by simp[execOp,go_sem,x22,x34]) rfl (by simp)
  ·intro f a wz hin _ _ _ _ hd;have x35:(a.tmps[35]?).getD undef=.bool true:=(hin 35 (by rfl)).trans (hd 19 (by kernel_rfl));exact mv_is rfl rfl (by simp[execOp,go_sem,x35]) rfl (by simp)
 ·intro f wz hC hd;have q6:f 6=.bool true:=hd 20 (show 20 < 21 by omega);have C4:=zI (Ct C0.out hC);clear hd hC HM HI HX HS;simp only[putAll,List.setIfInBounds_toArray,List.set_cons_succ,List.set_cons_zero,q6];clear q6;go_wp2
  go_ret;exact ⟨rfl,C4.out⟩
theorem by_A1b (w:World) (m:MC) (X:MX) (x:Nm.Inst) (y:Nat) (hX:XOK w m X) (hy:y < m.gu.length+m.mi.length) (ho:x.op=9) (he:(stF m y ==x.n)=true) (hyl:¬ y < m.gu.length):Calls Tryz.prog 77 #[.agg (mA m),.agg (iA x),.int .i64 y] w fun e w'=>e=.returned (.bool true)/\Chg (fun _=>False) w w':=by
 obtain ⟨h1,h2⟩:=cells2 w 32 83 (mA m) (iA x);have C0:=zI (chg2 w (.cells (mA m) 32) (.cells (iA x) 83));have hX1:=hX.later C0.out;have hg:=hX.few.2.2.1;have hm:=hX.few.2.2.2.1;obtain ⟨-,-,-,-,-,-,e6,e7,-,-⟩:=mcells h1;obtain ⟨g0,-,-,-,-,g5,-⟩:=icells h2;obtain ⟨w1,hw1⟩:∃ w1,w1=(w.alloc (.cells (mA m) 32)).alloc (.cells (iA x) 83):=⟨_,rfl⟩;rw[<-hw1] at h1 h2 C0 hX1;have HM:=zI (fun (w':World) (h:Chg (fun _=>False) w1 w')=>mcells (h1.chg h (fun h=>h)));have HI:=zI (fun (w':World) (h:Chg (fun _=>False) w1 w')=>icells (h2.chg h (fun h=>h)));have HX:=zI (fun (w':World) (h:Chg (fun _=>False) w1 w')=>hX1.later h);have HS:=zI (fun (w':World) (h:Chg (fun _=>False) w1 w')=>stage_any w' m y (hX1.later h).mo (by omega) hy);have hpl:(par X).length<=100:=by have:=hX.few.1;simpa [par] using this
 obtain ⟨st,hst⟩:∃ st,st=stF m y:=⟨_,rfl⟩;rw[<-hst] at he HS;have dy:decide ((y:Int) < (m.gu.length:Int))=false:=by rw[dF];omega
 have heq:=he;rw[ho] at g0;clear h1 h2 hX hX1 hst;unfold mA iA at hw1 e6 e7 g0 g5 |-;rw[ho] at hw1 |-;go_enter Tryz.func77,Tryz.ntmps77;go_wp2_with fail
 rw[<-hw1];clear hw1 e6 e7 g0 g5;refine region_mv (by kernel_rfl) [some 16,some 17,some 18,some 19,some 20,some 21,some 22,some 23,some 24,some 25,some 26,some 27,some 28,some 29,some 30,some 31,some 32,some 33,some 34,some 35,some 6] [16,17,18,19,20,21,22,23,24,25,26,27,28,29,30,31,32,33,34,35,6] [.is (.agg #[.slice m.aA m.nA m.cA,.slice m.aI m.nI m.cI,.slice m.aU m.nU m.cU,.slice m.aR m.ro.length m.cR,.slice m.aS m.nS m.cS,.slice m.aE m.ev.length m.cE,.slice m.aG m.gu.length m.cG,.slice m.aM m.mi.length m.cM,.slice m.aD m.so.length m.cD,.slice m.aO m.nO m.cO]),.is (.int .i64 y),.is (.int .i64 st),.is (.pointer (some ⟨w.heap.size+1,5,none⟩)),.is (.int .i64 x.n),.is (.bool true),.is (.bool true),.is (undef),.is (undef),.is (undef),.is (undef),.is (undef),.is (undef),.is (undef),.is (undef),.is (undef),.is (undef),.is (undef),.is (undef),.is (.bool true),.is (.bool true)] 1000 (fun _=>False) (by kernel_rfl) (by kernel_rfl) ?_ ?_
 ·refine ⟨?_,?_,?_,?_,?_,?_,?_,?_,?_,?_,?_,?_,?_,?_,?_,?_,?_,?_,?_,?_,?_,trivial⟩
  ·intro f a wz _ hout hC _ _ _;have x3:(a.tmps[3]?).getD undef=.pointer (some ⟨w.heap.size,0,none⟩):=hout 3 (by rfl);exact mv_is rfl rfl (by simp[execOp,go_sem,Result.andThen,x3,(HM.out wz hC).1,(HM.out wz hC).2.1,(HM.out wz hC).2.2.1,(HM.out wz hC).2.2.2.1,(HM.out wz hC).2.2.2.2.1,(HM.out wz hC).2.2.2.2.2.1,(HM.out wz hC).2.2.2.2.2.2.1,(HM.out wz hC).2.2.2.2.2.2.2.1,(HM.out wz hC).2.2.2.2.2.2.2.2.1,(HM.out wz hC).2.2.2.2.2.2.2.2.2]) rfl (by simp)
  ·intro f a wz _ hout _ _ _ _;have x2:(a.tmps[2]?).getD undef=.int .i64 y:=hout 2 (by rfl);exact mv_is rfl rfl (by simp[execOp,go_sem,x2]) rfl (by simp)
  ·intro f a wz hin _ hC _ _ hd;have x16:(a.tmps[16]?).getD undef=.agg #[.slice m.aA m.nA m.cA,.slice m.aI m.nI m.cI,.slice m.aU m.nU m.cU,.slice m.aR m.ro.length m.cR,.slice m.aS m.nS m.cS,.slice m.aE m.ev.length m.cE,.slice m.aG m.gu.length m.cG,.slice m.aM m.mi.length m.cM,.slice m.aD m.so.length m.cD,.slice m.aO m.nO m.cO]:=(hin 16 (by rfl)).trans (hd 0 (by kernel_rfl));have x17:(a.tmps[17]?).getD undef=.int .i64 y:=(hin 17 (by rfl)).trans (hd 1 (by kernel_rfl));exact mv_calli (f:=78) (args:=#[.agg #[.slice m.aA m.nA m.cA,.slice m.aI m.nI m.cI,.slice m.aU m.nU m.cU,.slice m.aR m.ro.length m.cR,.slice m.aS m.nS m.cS,.slice m.aE m.ev.length m.cE,.slice m.aG m.gu.length m.cG,.slice m.aM m.mi.length m.cM,.slice m.aD m.so.length m.cD,.slice m.aO m.nO m.cO],.int .i64 y]) rfl rfl (by simp[go_sem,x16,x17]) rfl (by simp) (HS.out wz hC)
  ·intro f a wz _ hout _ _ _ _;have x4:(a.tmps[4]?).getD undef=.pointer (some ⟨w.heap.size+1,0,none⟩):=hout 4 (by rfl);exact mv_is rfl rfl (by simp[execOp,go_sem,Result.andThen,x4]) rfl (by simp)
  ·intro f a wz hin _ hC _ _ hd;have x19:(a.tmps[19]?).getD undef=.pointer (some ⟨w.heap.size+1,5,none⟩):=(hin 19 (by rfl)).trans (hd 3 (by kernel_rfl));exact mv_is rfl rfl (by simp[execOp,go_sem,Result.andThen,x19,(HI.out wz hC).2.2.2.2.2.1]) rfl (by simp)
  ·intro f a wz hin _ _ _ _ hd;have x18:(a.tmps[18]?).getD undef=.int .i64 st:=(hin 18 (by rfl)).trans (hd 2 (by kernel_rfl));have x20:(a.tmps[20]?).getD undef=.int .i64 x.n:=(hin 20 (by rfl)).trans (hd 4 (by kernel_rfl));exact mv_is rfl rfl (by simp[execOp,go_sem,x18,x20,heq]) rfl (by simp)
  ·intro f a wz hin _ _ _ _ hd;have x21:(a.tmps[21]?).getD undef=.bool true:=(hin 21 (by rfl)).trans (hd 5 (by kernel_rfl));exact mv_is rfl rfl (by simp[execOp,go_sem,x21]) rfl (by simp)
  ·intro f a wz hin _ _ _ _ hd;have xg:(a.tmps[22]?).getD undef=.bool true:=(hin 22 (by rfl)).trans (hd 6 (by kernel_rfl));exact mg_skip rfl (wanted_n rfl rfl xg rfl) rfl
  ·intro f a wz hin _ _ _ _ hd;have xg:(a.tmps[22]?).getD undef=.bool true:=(hin 22 (by rfl)).trans (hd 6 (by kernel_rfl));exact mg_skip rfl (wanted_n rfl rfl xg rfl) rfl
  ·intro f a wz hin _ _ _ _ hd;have xg:(a.tmps[22]?).getD undef=.bool true:=(hin 22 (by rfl)).trans (hd 6 (by kernel_rfl));exact mg_skip rfl (wanted_n rfl rfl xg rfl) rfl
  ·intro f a wz hin _ _ _ _ hd;have xg:(a.tmps[25]?).getD undef=undef:=(hin 25 (by rfl)).trans (hd 9 (by kernel_rfl));exact mg_skip rfl (wanted_u rfl rfl xg) rfl
  ·intro f a wz hin _ _ _ _ hd;have xg:(a.tmps[25]?).getD undef=undef:=(hin 25 (by rfl)).trans (hd 9 (by kernel_rfl));exact mg_skip rfl (wanted_u rfl rfl xg) rfl
  ·intro f a wz hin _ _ _ _ hd;have xg:(a.tmps[25]?).getD undef=undef:=(hin 25 (by rfl)).trans (hd 9 (by kernel_rfl));exact mg_skip rfl (wanted_u rfl rfl xg) rfl
  ·intro f a wz hin _ _ _ _ hd;have xg:(a.tmps[25]?).getD undef=undef:=(hin 25 (by rfl)).trans (hd 9 (by kernel_rfl));exact mg_skip rfl (wanted_u rfl rfl xg) rfl
  ·intro f a wz hin _ _ _ _ hd;have xg:(a.tmps[25]?).getD undef=undef:=(hin 25 (by rfl)).trans (hd 9 (by kernel_rfl));exact mg_skip rfl (wanted_u rfl rfl xg) rfl
  ·intro f a wz hin _ _ _ _ hd;have xg:(a.tmps[25]?).getD undef=undef:=(hin 25 (by rfl)).trans (hd 9 (by kernel_rfl));exact mg_skip rfl (wanted_u rfl rfl xg) rfl
  ·intro f a wz hin _ _ _ _ hd;have xg:(a.tmps[25]?).getD undef=undef:=(hin 25 (by rfl)).trans (hd 9 (by kernel_rfl));exact mg_skip rfl (wanted_u rfl rfl xg) rfl
  ·intro f a wz hin _ _ _ _ hd;have xg:(a.tmps[25]?).getD undef=undef:=(hin 25 (by rfl)).trans (hd 9 (by kernel_rfl));exact mg_skip rfl (wanted_u rfl rfl xg) rfl
  ·intro f a wz hin _ _ _ _ hd;have xg:(a.tmps[22]?).getD undef=.bool true:=(hin 22 (by rfl)).trans (hd 6 (by kernel_rfl));exact mg_skip rfl (wanted_n rfl rfl xg rfl) rfl
  ·intro f a wz hin _ _ _ _ hd;have x22:(a.tmps[22]?).getD undef=.bool true:=(hin 22 (by rfl)).trans (hd 6 (by kernel_rfl));have x34:(a.tmps[34]?).getD undef=undef:=(hin 34 (by rfl)).trans (hd 18 (by kernel_rfl));exact mv_is rfl rfl (by simp[execOp,go_sem,x22,x34]) rfl (by simp)
  ·intro f a wz hin _ _ _ _ hd;have x35:(a.tmps[35]?).getD undef=.bool true:=(hin 35 (by rfl)).trans (hd 19 (by kernel_rfl));exact mv_is rfl rfl (by simp[execOp,go_sem,x35]) rfl (by simp)
 ·intro f wz hC hd;have q6:f 6=.bool true:=hd 20 (show 20 < 21 by omega);have C4:=zI (Ct C0.out hC);clear hd hC HM HI HX HS;simp only[putAll,List.setIfInBounds_toArray,List.set_cons_succ,List.set_cons_zero,q6];clear q6;go_wp2
  go_ret;exact ⟨rfl,C4.out⟩
theorem by_A2 (w:World) (m:MC) (X:MX) (x:Nm.Inst) (y:Nat) (hX:XOK w m X) (hy:y < m.gu.length+m.mi.length) (ho:x.op=9) (he:(stF m y ==x.n)=false) (hyl:y < m.gu.length):Calls Tryz.prog 77 #[.agg (mA m),.agg (iA x),.int .i64 y] w fun e w'=>e=.returned (.bool false)/\Chg (fun _=>False) w w':=by
 obtain ⟨h1,h2⟩:=cells2 w 32 83 (mA m) (iA x);have C0:=zI (chg2 w (.cells (mA m) 32) (.cells (iA x) 83));have hX1:=hX.later C0.out;have hg:=hX.few.2.2.1;have hm:=hX.few.2.2.2.1;obtain ⟨-,-,-,-,-,-,e6,e7,-,-⟩:=mcells h1;obtain ⟨g0,-,-,-,-,g5,-⟩:=icells h2;obtain ⟨w1,hw1⟩:∃ w1,w1=(w.alloc (.cells (mA m) 32)).alloc (.cells (iA x) 83):=⟨_,rfl⟩;rw[<-hw1] at h1 h2 C0 hX1;have HM:=zI (fun (w':World) (h:Chg (fun _=>False) w1 w')=>mcells (h1.chg h (fun h=>h)));have HI:=zI (fun (w':World) (h:Chg (fun _=>False) w1 w')=>icells (h2.chg h (fun h=>h)));have HX:=zI (fun (w':World) (h:Chg (fun _=>False) w1 w')=>hX1.later h);have HS:=zI (fun (w':World) (h:Chg (fun _=>False) w1 w')=>stage_any w' m y (hX1.later h).mo (by omega) hy);have hpl:(par X).length<=100:=by have:=hX.few.1;simpa [par] using this
 obtain ⟨st,hst⟩:∃ st,st=stF m y:=⟨_,rfl⟩;rw[<-hst] at he HS;have dy:decide ((y:Int) < (m.gu.length:Int))=true:=by rw[dT];omega
 have heq:=he;rw[ho] at g0;clear h1 h2 hX hX1 hst;unfold mA iA at hw1 e6 e7 g0 g5 |-;rw[ho] at hw1 |-;go_enter Tryz.func77,Tryz.ntmps77;go_wp2_with fail
 rw[<-hw1];clear hw1 e6 e7 g0 g5;refine region_mv (by kernel_rfl) [some 16,some 17,some 18,some 19,some 20,some 21,some 22,some 23,some 24,some 25,some 26,some 27,some 28,some 29,some 30,some 31,some 32,some 33,some 34,some 35,some 6] [16,17,18,19,20,21,22,23,24,25,26,27,28,29,30,31,32,33,34,35,6] [.is (.agg #[.slice m.aA m.nA m.cA,.slice m.aI m.nI m.cI,.slice m.aU m.nU m.cU,.slice m.aR m.ro.length m.cR,.slice m.aS m.nS m.cS,.slice m.aE m.ev.length m.cE,.slice m.aG m.gu.length m.cG,.slice m.aM m.mi.length m.cM,.slice m.aD m.so.length m.cD,.slice m.aO m.nO m.cO]),.is (.int .i64 y),.is (.int .i64 st),.is (.pointer (some ⟨w.heap.size+1,5,none⟩)),.is (.int .i64 x.n),.is (.bool false),.is (.bool false),.is (.bool true),.is (.bool false),.is (.bool false),.is (undef),.is (undef),.is (undef),.is (undef),.is (undef),.is (undef),.is (undef),.is (undef),.is (.bool false),.is (.bool false),.is (.bool false)] 1000 (fun _=>False) (by kernel_rfl) (by kernel_rfl) ?_ ?_
 ·refine ⟨?_,?_,?_,?_,?_,?_,?_,?_,?_,?_,?_,?_,?_,?_,?_,?_,?_,?_,?_,?_,?_,trivial⟩
  ·intro f a wz _ hout hC _ _ _;have x3:(a.tmps[3]?).getD undef=.pointer (some ⟨w.heap.size,0,none⟩):=hout 3 (by rfl);exact mv_is rfl rfl (by simp[execOp,go_sem,Result.andThen,x3,(HM.out wz hC).1,(HM.out wz hC).2.1,(HM.out wz hC).2.2.1,(HM.out wz hC).2.2.2.1,(HM.out wz hC).2.2.2.2.1,(HM.out wz hC).2.2.2.2.2.1,(HM.out wz hC).2.2.2.2.2.2.1,(HM.out wz hC).2.2.2.2.2.2.2.1,(HM.out wz hC).2.2.2.2.2.2.2.2.1,(HM.out wz hC).2.2.2.2.2.2.2.2.2]) rfl (by simp)
  ·intro f a wz _ hout _ _ _ _;have x2:(a.tmps[2]?).getD undef=.int .i64 y:=hout 2 (by rfl);exact mv_is rfl rfl (by simp[execOp,go_sem,x2]) rfl (by simp)
  ·intro f a wz hin _ hC _ _ hd;have x16:(a.tmps[16]?).getD undef=.agg #[.slice m.aA m.nA m.cA,.slice m.aI m.nI m.cI,.slice m.aU m.nU m.cU,.slice m.aR m.ro.length m.cR,.slice m.aS m.nS m.cS,.slice m.aE m.ev.length m.cE,.slice m.aG m.gu.length m.cG,.slice m.aM m.mi.length m.cM,.slice m.aD m.so.length m.cD,.slice m.aO m.nO m.cO]:=(hin 16 (by rfl)).trans (hd 0 (by kernel_rfl));have x17:(a.tmps[17]?).getD undef=.int .i64 y:=(hin 17 (by rfl)).trans (hd 1 (by kernel_rfl));exact mv_calli (f:=78) (args:=#[.agg #[.slice m.aA m.nA m.cA,.slice m.aI m.nI m.cI,.slice m.aU m.nU m.cU,.slice m.aR m.ro.length m.cR,.slice m.aS m.nS m.cS,.slice m.aE m.ev.length m.cE,.slice m.aG m.gu.length m.cG,.slice m.aM m.mi.length m.cM,.slice m.aD m.so.length m.cD,.slice m.aO m.nO m.cO],.int .i64 y]) rfl rfl (by simp[go_sem,x16,x17]) rfl (by simp) (HS.out wz hC)
  ·intro f a wz _ hout _ _ _ _;have x4:(a.tmps[4]?).getD undef=.pointer (some ⟨w.heap.size+1,0,none⟩):=hout 4 (by rfl);exact mv_is rfl rfl (by simp[execOp,go_sem,Result.andThen,x4]) rfl (by simp)
  ·intro f a wz hin _ hC _ _ hd;have x19:(a.tmps[19]?).getD undef=.pointer (some ⟨w.heap.size+1,5,none⟩):=(hin 19 (by rfl)).trans (hd 3 (by kernel_rfl));exact mv_is rfl rfl (by simp[execOp,go_sem,Result.andThen,x19,(HI.out wz hC).2.2.2.2.2.1]) rfl (by simp)
  ·intro f a wz hin _ _ _ _ hd;have x18:(a.tmps[18]?).getD undef=.int .i64 st:=(hin 18 (by rfl)).trans (hd 2 (by kernel_rfl));have x20:(a.tmps[20]?).getD undef=.int .i64 x.n:=(hin 20 (by rfl)).trans (hd 4 (by kernel_rfl));exact mv_is rfl rfl (by simp[execOp,go_sem,x18,x20,heq]) rfl (by simp)
  ·intro f a wz hin _ _ _ _ hd;have x21:(a.tmps[21]?).getD undef=.bool false:=(hin 21 (by rfl)).trans (hd 5 (by kernel_rfl));exact mv_is rfl rfl (by simp[execOp,go_sem,x21]) rfl (by simp)
  ·intro f a wz hin hout _ _ _ hd;have xg:(a.tmps[22]?).getD undef=.bool false:=(hin 22 (by rfl)).trans (hd 6 (by kernel_rfl));have x7:(a.tmps[7]?).getD undef=.bool true:=hout 7 (by rfl);exact mg_is rfl (wanted_g rfl rfl xg) (by simp[execOp,go_sem,x7]) rfl (by simp)
  ·intro f a wz hin _ _ _ _ hd;have xg:(a.tmps[22]?).getD undef=.bool false:=(hin 22 (by rfl)).trans (hd 6 (by kernel_rfl));have x23:(a.tmps[23]?).getD undef=.bool true:=(hin 23 (by rfl)).trans (hd 7 (by kernel_rfl));exact mg_is rfl (wanted_g rfl rfl xg) (by simp[execOp,go_sem,x23]) rfl (by simp)
  ·intro f a wz hin _ _ _ _ hd;have xg:(a.tmps[22]?).getD undef=.bool false:=(hin 22 (by rfl)).trans (hd 6 (by kernel_rfl));have x24:(a.tmps[24]?).getD undef=.bool false:=(hin 24 (by rfl)).trans (hd 8 (by kernel_rfl));exact mg_is rfl (wanted_g rfl rfl xg) (by simp[execOp,go_sem,x24]) rfl (by simp)
  ·intro f a wz hin _ _ _ _ hd;have xg:(a.tmps[25]?).getD undef=.bool false:=(hin 25 (by rfl)).trans (hd 9 (by kernel_rfl));exact mg_skip rfl (wanted_n rfl rfl xg rfl) rfl
  ·intro f a wz hin _ _ _ _ hd;have xg:(a.tmps[25]?).getD undef=.bool false:=(hin 25 (by rfl)).trans (hd 9 (by kernel_rfl));exact mg_skip rfl (wanted_n rfl rfl xg rfl) rfl
  ·intro f a wz hin _ _ _ _ hd;have xg:(a.tmps[25]?).getD undef=.bool false:=(hin 25 (by rfl)).trans (hd 9 (by kernel_rfl));exact mg_skip rfl (wanted_n rfl rfl xg rfl) rfl
  ·intro f a wz hin _ _ _ _ hd;have xg:(a.tmps[25]?).getD undef=.bool false:=(hin 25 (by rfl)).trans (hd 9 (by kernel_rfl));exact mg_skip rfl (wanted_n rfl rfl xg rfl) rfl
  ·intro f a wz hin _ _ _ _ hd;have xg:(a.tmps[25]?).getD undef=.bool false:=(hin 25 (by rfl)).trans (hd 9 (by kernel_rfl));exact mg_skip rfl (wanted_n rfl rfl xg rfl) rfl
  ·intro f a wz hin _ _ _ _ hd;have xg:(a.tmps[25]?).getD undef=.bool false:=(hin 25 (by rfl)).trans (hd 9 (by kernel_rfl));exact mg_skip rfl (wanted_n rfl rfl xg rfl) rfl
  ·intro f a wz hin _ _ _ _ hd;have xg:(a.tmps[25]?).getD undef=.bool false:=(hin 25 (by rfl)).trans (hd 9 (by kernel_rfl));exact mg_skip rfl (wanted_n rfl rfl xg rfl) rfl
  ·intro f a wz hin _ _ _ _ hd;have xg:(a.tmps[25]?).getD undef=.bool false:=(hin 25 (by rfl)).trans (hd 9 (by kernel_rfl));exact mg_skip rfl (wanted_n rfl rfl xg rfl) rfl
  ·intro f a wz hin _ _ _ _ hd;have xg:(a.tmps[22]?).getD undef=.bool false:=(hin 22 (by rfl)).trans (hd 6 (by kernel_rfl));have x25:(a.tmps[25]?).getD undef=.bool false:=(hin 25 (by rfl)).trans (hd 9 (by kernel_rfl));have x33:(a.tmps[33]?).getD undef=undef:=(hin 33 (by rfl)).trans (hd 17 (by kernel_rfl));exact mg_is rfl (wanted_g rfl rfl xg) (by simp[execOp,go_sem,x25,x33]) rfl (by simp)
  ·intro f a wz hin _ _ _ _ hd;have x22:(a.tmps[22]?).getD undef=.bool false:=(hin 22 (by rfl)).trans (hd 6 (by kernel_rfl));have x34:(a.tmps[34]?).getD undef=.bool false:=(hin 34 (by rfl)).trans (hd 18 (by kernel_rfl));exact mv_is rfl rfl (by simp[execOp,go_sem,x22,x34]) rfl (by simp)
  ·intro f a wz hin _ _ _ _ hd;have x35:(a.tmps[35]?).getD undef=.bool false:=(hin 35 (by rfl)).trans (hd 19 (by kernel_rfl));exact mv_is rfl rfl (by simp[execOp,go_sem,x35]) rfl (by simp)
 ·intro f wz hC hd;have q6:f 6=.bool false:=hd 20 (show 20 < 21 by omega);have C4:=zI (Ct C0.out hC);clear hd hC HM HI HX HS;simp only[putAll,List.setIfInBounds_toArray,List.set_cons_succ,List.set_cons_zero,q6];clear q6;go_wp2
  go_ret;exact ⟨rfl,C4.out⟩
theorem by_A3 (w:World) (m:MC) (X:MX) (x:Nm.Inst) (y:Nat) (hX:XOK w m X) (hy:y < m.gu.length+m.mi.length) (ho:x.op=9) (he:(stF m y ==x.n)=false) (hyl:¬ y < m.gu.length):Calls Tryz.prog 77 #[.agg (mA m),.agg (iA x),.int .i64 y] w fun e w'=>e=.returned (.bool (isF (par X) (stF m y) x.n))/\Chg (fun _=>False) w w':=by
 obtain ⟨h1,h2⟩:=cells2 w 32 83 (mA m) (iA x);have C0:=zI (chg2 w (.cells (mA m) 32) (.cells (iA x) 83));have hX1:=hX.later C0.out;have hg:=hX.few.2.2.1;have hm:=hX.few.2.2.2.1;obtain ⟨-,-,-,-,-,-,e6,e7,-,-⟩:=mcells h1;obtain ⟨g0,-,-,-,-,g5,-⟩:=icells h2;obtain ⟨w1,hw1⟩:∃ w1,w1=(w.alloc (.cells (mA m) 32)).alloc (.cells (iA x) 83):=⟨_,rfl⟩;rw[<-hw1] at h1 h2 C0 hX1;have HM:=zI (fun (w':World) (h:Chg (fun _=>False) w1 w')=>mcells (h1.chg h (fun h=>h)));have HI:=zI (fun (w':World) (h:Chg (fun _=>False) w1 w')=>icells (h2.chg h (fun h=>h)));have HX:=zI (fun (w':World) (h:Chg (fun _=>False) w1 w')=>hX1.later h);have HS:=zI (fun (w':World) (h:Chg (fun _=>False) w1 w')=>stage_any w' m y (hX1.later h).mo (by omega) hy);have hpl:(par X).length<=100:=by have:=hX.few.1;simpa [par] using this
 obtain ⟨st,hst⟩:∃ st,st=stF m y:=⟨_,rfl⟩;rw[<-hst] at he HS |-;have dy:decide ((y:Int) < (m.gu.length:Int))=false:=by rw[dF];omega
 have heq:=he;obtain ⟨is,his⟩:∃ is,is=isF (par X) st x.n:=⟨_,rfl⟩;rw[<-his];replace his:=zI his;rw[ho] at g0;clear h1 h2 hX hX1 hst;unfold mA iA at hw1 e6 e7 g0 g5 |-;rw[ho] at hw1 |-;go_enter Tryz.func77,Tryz.ntmps77;go_wp2_with fail
 rw[<-hw1];clear hw1 e6 e7 g0 g5;refine region_mv (by kernel_rfl) [some 16,some 17,some 18,some 19,some 20,some 21,some 22,some 23,some 24,some 25,some 26,some 27,some 28,some 29,some 30,some 31,some 32,some 33,some 34,some 35,some 6] [16,17,18,19,20,21,22,23,24,25,26,27,28,29,30,31,32,33,34,35,6] [.is (.agg #[.slice m.aA m.nA m.cA,.slice m.aI m.nI m.cI,.slice m.aU m.nU m.cU,.slice m.aR m.ro.length m.cR,.slice m.aS m.nS m.cS,.slice m.aE m.ev.length m.cE,.slice m.aG m.gu.length m.cG,.slice m.aM m.mi.length m.cM,.slice m.aD m.so.length m.cD,.slice m.aO m.nO m.cO]),.is (.int .i64 y),.is (.int .i64 st),.is (.pointer (some ⟨w.heap.size+1,5,none⟩)),.is (.int .i64 x.n),.is (.bool false),.is (.bool false),.is (.bool false),.is (.bool true),.is (.bool true),.is (.agg #[.slice m.aA m.nA m.cA,.slice m.aI m.nI m.cI,.slice m.aU m.nU m.cU,.slice m.aR m.ro.length m.cR,.slice m.aS m.nS m.cS,.slice m.aE m.ev.length m.cE,.slice m.aG m.gu.length m.cG,.slice m.aM m.mi.length m.cM,.slice m.aD m.so.length m.cD,.slice m.aO m.nO m.cO]),.su (fun v w'=>∃ A c,v=.slice A (par X).length c/\Rd w' w'.heap.size A (intsV (par X))),.is (.agg #[.slice m.aA m.nA m.cA,.slice m.aI m.nI m.cI,.slice m.aU m.nU m.cU,.slice m.aR m.ro.length m.cR,.slice m.aS m.nS m.cS,.slice m.aE m.ev.length m.cE,.slice m.aG m.gu.length m.cG,.slice m.aM m.mi.length m.cM,.slice m.aD m.so.length m.cD,.slice m.aO m.nO m.cO]),.is (.int .i64 y),.is (.int .i64 st),.is (.pointer (some ⟨w.heap.size+1,5,none⟩)),.is (.int .i64 x.n),.is (.bool is),.is (.bool is),.is (.bool is),.is (.bool is)] 1000 (fun _=>False) (by kernel_rfl) (by kernel_rfl) ?_ ?_
 ·refine ⟨?_,?_,?_,?_,?_,?_,?_,?_,?_,?_,?_,?_,?_,?_,?_,?_,?_,?_,?_,?_,?_,trivial⟩
  ·intro f a wz _ hout hC _ _ _;have x3:(a.tmps[3]?).getD undef=.pointer (some ⟨w.heap.size,0,none⟩):=hout 3 (by rfl);exact mv_is rfl rfl (by simp[execOp,go_sem,Result.andThen,x3,(HM.out wz hC).1,(HM.out wz hC).2.1,(HM.out wz hC).2.2.1,(HM.out wz hC).2.2.2.1,(HM.out wz hC).2.2.2.2.1,(HM.out wz hC).2.2.2.2.2.1,(HM.out wz hC).2.2.2.2.2.2.1,(HM.out wz hC).2.2.2.2.2.2.2.1,(HM.out wz hC).2.2.2.2.2.2.2.2.1,(HM.out wz hC).2.2.2.2.2.2.2.2.2]) rfl (by simp)
  ·intro f a wz _ hout _ _ _ _;have x2:(a.tmps[2]?).getD undef=.int .i64 y:=hout 2 (by rfl);exact mv_is rfl rfl (by simp[execOp,go_sem,x2]) rfl (by simp)
  ·intro f a wz hin _ hC _ _ hd;have x16:(a.tmps[16]?).getD undef=.agg #[.slice m.aA m.nA m.cA,.slice m.aI m.nI m.cI,.slice m.aU m.nU m.cU,.slice m.aR m.ro.length m.cR,.slice m.aS m.nS m.cS,.slice m.aE m.ev.length m.cE,.slice m.aG m.gu.length m.cG,.slice m.aM m.mi.length m.cM,.slice m.aD m.so.length m.cD,.slice m.aO m.nO m.cO]:=(hin 16 (by rfl)).trans (hd 0 (by kernel_rfl));have x17:(a.tmps[17]?).getD undef=.int .i64 y:=(hin 17 (by rfl)).trans (hd 1 (by kernel_rfl));exact mv_calli (f:=78) (args:=#[.agg #[.slice m.aA m.nA m.cA,.slice m.aI m.nI m.cI,.slice m.aU m.nU m.cU,.slice m.aR m.ro.length m.cR,.slice m.aS m.nS m.cS,.slice m.aE m.ev.length m.cE,.slice m.aG m.gu.length m.cG,.slice m.aM m.mi.length m.cM,.slice m.aD m.so.length m.cD,.slice m.aO m.nO m.cO],.int .i64 y]) rfl rfl (by simp[go_sem,x16,x17]) rfl (by simp) (HS.out wz hC)
  ·intro f a wz _ hout _ _ _ _;have x4:(a.tmps[4]?).getD undef=.pointer (some ⟨w.heap.size+1,0,none⟩):=hout 4 (by rfl);exact mv_is rfl rfl (by simp[execOp,go_sem,Result.andThen,x4]) rfl (by simp)
  ·intro f a wz hin _ hC _ _ hd;have x19:(a.tmps[19]?).getD undef=.pointer (some ⟨w.heap.size+1,5,none⟩):=(hin 19 (by rfl)).trans (hd 3 (by kernel_rfl));exact mv_is rfl rfl (by simp[execOp,go_sem,Result.andThen,x19,(HI.out wz hC).2.2.2.2.2.1]) rfl (by simp)
  ·intro f a wz hin _ _ _ _ hd;have x18:(a.tmps[18]?).getD undef=.int .i64 st:=(hin 18 (by rfl)).trans (hd 2 (by kernel_rfl));have x20:(a.tmps[20]?).getD undef=.int .i64 x.n:=(hin 20 (by rfl)).trans (hd 4 (by kernel_rfl));exact mv_is rfl rfl (by simp[execOp,go_sem,x18,x20,heq]) rfl (by simp)
  ·intro f a wz hin _ _ _ _ hd;have x21:(a.tmps[21]?).getD undef=.bool false:=(hin 21 (by rfl)).trans (hd 5 (by kernel_rfl));exact mv_is rfl rfl (by simp[execOp,go_sem,x21]) rfl (by simp)
  ·intro f a wz hin hout _ _ _ hd;have xg:(a.tmps[22]?).getD undef=.bool false:=(hin 22 (by rfl)).trans (hd 6 (by kernel_rfl));have x7:(a.tmps[7]?).getD undef=.bool false:=hout 7 (by rfl);exact mg_is rfl (wanted_g rfl rfl xg) (by simp[execOp,go_sem,x7]) rfl (by simp)
  ·intro f a wz hin _ _ _ _ hd;have xg:(a.tmps[22]?).getD undef=.bool false:=(hin 22 (by rfl)).trans (hd 6 (by kernel_rfl));have x23:(a.tmps[23]?).getD undef=.bool false:=(hin 23 (by rfl)).trans (hd 7 (by kernel_rfl));exact mg_is rfl (wanted_g rfl rfl xg) (by simp[execOp,go_sem,x23]) rfl (by simp)
  ·intro f a wz hin _ _ _ _ hd;have xg:(a.tmps[22]?).getD undef=.bool false:=(hin 22 (by rfl)).trans (hd 6 (by kernel_rfl));have x24:(a.tmps[24]?).getD undef=.bool true:=(hin 24 (by rfl)).trans (hd 8 (by kernel_rfl));exact mg_is rfl (wanted_g rfl rfl xg) (by simp[execOp,go_sem,x24]) rfl (by simp)
  ·intro f a wz hin hout hC _ _ hd;have xg:(a.tmps[25]?).getD undef=.bool true:=(hin 25 (by rfl)).trans (hd 9 (by kernel_rfl));have x3:(a.tmps[3]?).getD undef=.pointer (some ⟨w.heap.size,0,none⟩):=hout 3 (by rfl);exact mg_is rfl (wanted_g rfl rfl xg) (by simp[execOp,go_sem,Result.andThen,x3,(HM.out wz hC).1,(HM.out wz hC).2.1,(HM.out wz hC).2.2.1,(HM.out wz hC).2.2.2.1,(HM.out wz hC).2.2.2.2.1,(HM.out wz hC).2.2.2.2.2.1,(HM.out wz hC).2.2.2.2.2.2.1,(HM.out wz hC).2.2.2.2.2.2.2.1,(HM.out wz hC).2.2.2.2.2.2.2.2.1,(HM.out wz hC).2.2.2.2.2.2.2.2.2]) rfl (by simp)
  ·intro f a wz hin _ hC _ _ hd;have xg:(a.tmps[25]?).getD undef=.bool true:=(hin 25 (by rfl)).trans (hd 9 (by kernel_rfl));have x26:(a.tmps[26]?).getD undef=.agg #[.slice m.aA m.nA m.cA,.slice m.aI m.nI m.cI,.slice m.aU m.nU m.cU,.slice m.aR m.ro.length m.cR,.slice m.aS m.nS m.cS,.slice m.aE m.ev.length m.cE,.slice m.aG m.gu.length m.cG,.slice m.aM m.mi.length m.cM,.slice m.aD m.so.length m.cD,.slice m.aO m.nO m.cO]:=(hin 26 (by rfl)).trans (hd 10 (by kernel_rfl));refine mg_call (f:=22) (args:=#[.agg #[.slice m.aA m.nA m.cA,.slice m.aI m.nI m.cI,.slice m.aU m.nU m.cU,.slice m.aR m.ro.length m.cR,.slice m.aS m.nS m.cS,.slice m.aE m.ev.length m.cE,.slice m.aG m.gu.length m.cG,.slice m.aM m.mi.length m.cM,.slice m.aD m.so.length m.cD,.slice m.aO m.nO m.cO]]) rfl (wanted_g rfl rfl xg) (by simp[go_sem,x26]) rfl (by simp) ((parents_any wz m X (HX.out wz hC)).mono ?_);rintro e w5 ⟨A,c,rfl,hR,hc⟩;exact ⟨_,rfl,⟨A,c,rfl,hR⟩,hc⟩
  ·intro f a wz hin hout hC _ _ hd;have xg:(a.tmps[25]?).getD undef=.bool true:=(hin 25 (by rfl)).trans (hd 9 (by kernel_rfl));have x3:(a.tmps[3]?).getD undef=.pointer (some ⟨w.heap.size,0,none⟩):=hout 3 (by rfl);exact mg_is rfl (wanted_g rfl rfl xg) (by simp[execOp,go_sem,Result.andThen,x3,(HM.out wz hC).1,(HM.out wz hC).2.1,(HM.out wz hC).2.2.1,(HM.out wz hC).2.2.2.1,(HM.out wz hC).2.2.2.2.1,(HM.out wz hC).2.2.2.2.2.1,(HM.out wz hC).2.2.2.2.2.2.1,(HM.out wz hC).2.2.2.2.2.2.2.1,(HM.out wz hC).2.2.2.2.2.2.2.2.1,(HM.out wz hC).2.2.2.2.2.2.2.2.2]) rfl (by simp)
  ·intro f a wz hin hout _ _ _ hd;have xg:(a.tmps[25]?).getD undef=.bool true:=(hin 25 (by rfl)).trans (hd 9 (by kernel_rfl));have x2:(a.tmps[2]?).getD undef=.int .i64 y:=hout 2 (by rfl);exact mg_is rfl (wanted_g rfl rfl xg) (by simp[execOp,go_sem,x2]) rfl (by simp)
  ·intro f a wz hin _ hC _ _ hd;have xg:(a.tmps[25]?).getD undef=.bool true:=(hin 25 (by rfl)).trans (hd 9 (by kernel_rfl));have x28:(a.tmps[28]?).getD undef=.agg #[.slice m.aA m.nA m.cA,.slice m.aI m.nI m.cI,.slice m.aU m.nU m.cU,.slice m.aR m.ro.length m.cR,.slice m.aS m.nS m.cS,.slice m.aE m.ev.length m.cE,.slice m.aG m.gu.length m.cG,.slice m.aM m.mi.length m.cM,.slice m.aD m.so.length m.cD,.slice m.aO m.nO m.cO]:=(hin 28 (by rfl)).trans (hd 12 (by kernel_rfl));have x29:(a.tmps[29]?).getD undef=.int .i64 y:=(hin 29 (by rfl)).trans (hd 13 (by kernel_rfl));exact mg_calli (f:=78) (args:=#[.agg #[.slice m.aA m.nA m.cA,.slice m.aI m.nI m.cI,.slice m.aU m.nU m.cU,.slice m.aR m.ro.length m.cR,.slice m.aS m.nS m.cS,.slice m.aE m.ev.length m.cE,.slice m.aG m.gu.length m.cG,.slice m.aM m.mi.length m.cM,.slice m.aD m.so.length m.cD,.slice m.aO m.nO m.cO],.int .i64 y]) rfl (wanted_g rfl rfl xg) (by simp[go_sem,x28,x29]) rfl (by simp) (HS.out wz hC)
  ·intro f a wz hin hout _ _ _ hd;have xg:(a.tmps[25]?).getD undef=.bool true:=(hin 25 (by rfl)).trans (hd 9 (by kernel_rfl));have x4:(a.tmps[4]?).getD undef=.pointer (some ⟨w.heap.size+1,0,none⟩):=hout 4 (by rfl);exact mg_is rfl (wanted_g rfl rfl xg) (by simp[execOp,go_sem,Result.andThen,x4]) rfl (by simp)
  ·intro f a wz hin _ hC _ _ hd;have xg:(a.tmps[25]?).getD undef=.bool true:=(hin 25 (by rfl)).trans (hd 9 (by kernel_rfl));have x31:(a.tmps[31]?).getD undef=.pointer (some ⟨w.heap.size+1,5,none⟩):=(hin 31 (by rfl)).trans (hd 15 (by kernel_rfl));exact mg_is rfl (wanted_g rfl rfl xg) (by simp[execOp,go_sem,Result.andThen,x31,(HI.out wz hC).2.2.2.2.2.1]) rfl (by simp)
  ·intro f a wz hin _ _ _ _ hd;have xg:(a.tmps[25]?).getD undef=.bool true:=(hin 25 (by rfl)).trans (hd 9 (by kernel_rfl));obtain ⟨v27w,v27c,v27p⟩:=hd 11 (by kernel_rfl);have x27:=hin 27 (by rfl);have x30:(a.tmps[30]?).getD undef=.int .i64 st:=(hin 30 (by rfl)).trans (hd 14 (by kernel_rfl));have x32:(a.tmps[32]?).getD undef=.int .i64 x.n:=(hin 32 (by rfl)).trans (hd 16 (by kernel_rfl));obtain ⟨A,c,v27e,hR⟩:=v27p;replace x27:=x27.trans v27e;exact mg_calli (f:=46) (args:=#[.slice A (par X).length c,.int .i64 st,.int .i64 x.n]) rfl (wanted_g rfl rfl xg) (by simp[go_sem,x27,x30,x32]) rfl (by simp) (((is10_any wz A c (par X) st x.n (by omega) (hR.later (v27c.mono (fun _ _ h=>h.2)) (fun _ h=>h.elim))).mono (fun e w' h=>⟨by rw[h.1,<-his.out],by rw[<-h.2];exact Chg.refl _ _⟩)))
  ·intro f a wz hin _ _ _ _ hd;have xg:(a.tmps[22]?).getD undef=.bool false:=(hin 22 (by rfl)).trans (hd 6 (by kernel_rfl));have x25:(a.tmps[25]?).getD undef=.bool true:=(hin 25 (by rfl)).trans (hd 9 (by kernel_rfl));have x33:(a.tmps[33]?).getD undef=.bool is:=(hin 33 (by rfl)).trans (hd 17 (by kernel_rfl));exact mg_is rfl (wanted_g rfl rfl xg) (by simp[execOp,go_sem,x25,x33]) rfl (by simp)
  ·intro f a wz hin _ _ _ _ hd;have x22:(a.tmps[22]?).getD undef=.bool false:=(hin 22 (by rfl)).trans (hd 6 (by kernel_rfl));have x34:(a.tmps[34]?).getD undef=.bool is:=(hin 34 (by rfl)).trans (hd 18 (by kernel_rfl));exact mv_is rfl rfl (by simp[execOp,go_sem,x22,x34]) rfl (by simp)
  ·intro f a wz hin _ _ _ _ hd;have x35:(a.tmps[35]?).getD undef=.bool is:=(hin 35 (by rfl)).trans (hd 19 (by kernel_rfl));exact mv_is rfl rfl (by simp[execOp,go_sem,x35]) rfl (by simp)
 ·intro f wz hC hd;have q6:f 6=.bool is:=hd 20 (show 20 < 21 by omega);have C4:=zI (Ct C0.out hC);clear hd hC HM HI HX HS;simp only[putAll,List.setIfInBounds_toArray,List.set_cons_succ,List.set_cons_zero,q6];clear q6;go_wp2
  go_ret;exact ⟨rfl,C4.out⟩
theorem by_B (w:World) (m:MC) (X:MX) (x:Nm.Inst) (y:Nat) (hX:XOK w m X) (hy:y < m.gu.length+m.mi.length) (ho:x.op=10) (hyl:¬ y < m.gu.length):Calls Tryz.prog 77 #[.agg (mA m),.agg (iA x),.int .i64 y] w fun e w'=>e=.returned (.bool ((y:Int) - m.gu.length ==x.n))/\Chg (fun _=>False) w w':=by
 obtain ⟨h1,h2⟩:=cells2 w 32 83 (mA m) (iA x);have C0:=zI (chg2 w (.cells (mA m) 32) (.cells (iA x) 83));have hX1:=hX.later C0.out;have hg:=hX.few.2.2.1;have hm:=hX.few.2.2.2.1;obtain ⟨-,-,-,-,-,-,e6,e7,-,-⟩:=mcells h1;obtain ⟨g0,-,-,-,-,g5,-⟩:=icells h2;obtain ⟨w1,hw1⟩:∃ w1,w1=(w.alloc (.cells (mA m) 32)).alloc (.cells (iA x) 83):=⟨_,rfl⟩;rw[<-hw1] at h1 h2 C0 hX1;have HM:=zI (fun (w':World) (h:Chg (fun _=>False) w1 w')=>mcells (h1.chg h (fun h=>h)));have HI:=zI (fun (w':World) (h:Chg (fun _=>False) w1 w')=>icells (h2.chg h (fun h=>h)));have HX:=zI (fun (w':World) (h:Chg (fun _=>False) w1 w')=>hX1.later h);have HS:=zI (fun (w':World) (h:Chg (fun _=>False) w1 w')=>stage_any w' m y (hX1.later h).mo (by omega) hy);have hpl:(par X).length<=100:=by have:=hX.few.1;simpa [par] using this
 obtain ⟨st,hst⟩:∃ st,st=stF m y:=⟨_,rfl⟩;have q9:(x.op ==9)=false:=by exact beq_f (by omega)
 have q10:(x.op ==10)=true:=by exact beq_t (by omega)
 have dy:decide ((y:Int) < (m.gu.length:Int))=false:=by rw[dF];omega
 have hwr:IntKind.i64.wrap ((y:Int) - (m.gu.length:Int))=(y:Int) - m.gu.length:=by rw[IntKind.wrap_i64];omega
 have dyN:decide (y < m.gu.length)=false:=by simpa using hyl
 clear hyl;clear h1 h2 hX hX1 hst ho;unfold mA iA at hw1 e6 e7 g0 g5 |-;go_enter Tryz.func77,Tryz.ntmps77;go_wp2
 go_ret;rw[hw1] at C0;exact ⟨rfl,C0.out⟩
theorem by_D (w:World) (m:MC) (X:MX) (x:Nm.Inst) (y:Nat) (hX:XOK w m X) (hy:y < m.gu.length+m.mi.length) (ho:x.op ≠ 9) (ho2:x.op ≠ 10):Calls Tryz.prog 77 #[.agg (mA m),.agg (iA x),.int .i64 y] w fun e w'=>e=.returned (.bool false)/\Chg (fun _=>False) w w':=by
 obtain ⟨h1,h2⟩:=cells2 w 32 83 (mA m) (iA x);have C0:=zI (chg2 w (.cells (mA m) 32) (.cells (iA x) 83));have hX1:=hX.later C0.out;have hg:=hX.few.2.2.1;have hm:=hX.few.2.2.2.1;obtain ⟨-,-,-,-,-,-,e6,e7,-,-⟩:=mcells h1;obtain ⟨g0,-,-,-,-,g5,-⟩:=icells h2;obtain ⟨w1,hw1⟩:∃ w1,w1=(w.alloc (.cells (mA m) 32)).alloc (.cells (iA x) 83):=⟨_,rfl⟩;rw[<-hw1] at h1 h2 C0 hX1;have HM:=zI (fun (w':World) (h:Chg (fun _=>False) w1 w')=>mcells (h1.chg h (fun h=>h)));have HI:=zI (fun (w':World) (h:Chg (fun _=>False) w1 w')=>icells (h2.chg h (fun h=>h)));have HX:=zI (fun (w':World) (h:Chg (fun _=>False) w1 w')=>hX1.later h);have HS:=zI (fun (w':World) (h:Chg (fun _=>False) w1 w')=>stage_any w' m y (hX1.later h).mo (by omega) hy);have hpl:(par X).length<=100:=by have:=hX.few.1;simpa [par] using this
 obtain ⟨st,hst⟩:∃ st,st=stF m y:=⟨_,rfl⟩;have q9:(x.op ==9)=false:=by exact beq_f (by omega)
 have q10:(x.op ==10)=false:=by exact beq_f (by omega)
 clear h1 h2 hX hX1 hst ho;unfold mA iA at hw1 e6 e7 g0 g5 |-;go_enter Tryz.func77,Tryz.ntmps77;go_wp2_with fail
 rw[<-hw1];have M0:=fun n:KW w1=>HM.out n.w n.h
 have F0:=fun n:KW w1=>(M0 n).1
 have F1:=fun n:KW w1=>(M0 n).2.1
 have F2:=fun n:KW w1=>(M0 n).2.2.1
 have F3:=fun n:KW w1=>(M0 n).2.2.2.1
 have F4:=fun n:KW w1=>(M0 n).2.2.2.2.1
 have F5:=fun n:KW w1=>(M0 n).2.2.2.2.2.1
 have F6:=fun n:KW w1=>(M0 n).2.2.2.2.2.2.1
 have F7:=fun n:KW w1=>(M0 n).2.2.2.2.2.2.2.1
 have F8:=fun n:KW w1=>(M0 n).2.2.2.2.2.2.2.2.1
 have F9:=fun n:KW w1=>(M0 n).2.2.2.2.2.2.2.2.2
 have G0:=fun n:KW w1=>(HI.out n.w n.h).1
 have G5:=fun n:KW w1=>(HI.out n.w n.h).2.2.2.2.2.1
 have HL:=zI (fun n:KW w1=>kept_call (HS.out n.w n.h));unfold mA at HL;skip;clear M0 e6 e7 g0 g5 hw1 HM HI HX HS;refine wp_region_kept w1 (Chg.refl _ _) (by kernel_rfl) (by kernel_rfl) ?_;repeat (go_big_quiet_step (with_reducible exact HL.out _))
 refine wpQuiet_nil ?_;rintro w4 ⟨n,rfl⟩;have C4:=zI (Ct C0.out n.h);obtain ⟨w5,hw5⟩:∃ w5,w5=n.w:=⟨_,rfl⟩;rw[<-hw5] at C4 |-;clear hw5 F0 F1 F2 F3 F4 F5 F6 F7 F8 F9 G0 G5 HL;go_wp2
 go_ret;exact ⟨rfl,C4.out⟩
theorem by_C1 (w:World) (m:MC) (X:MX) (x:Nm.Inst) (y:Nat) (hX:XOK w m X) (hy:y < m.gu.length+m.mi.length) (ho:x.op=10) (hyl:y < m.gu.length) (hn:¬ 0<=x.n):Calls Tryz.prog 77 #[.agg (mA m),.agg (iA x),.int .i64 y] w fun e w'=>e=.returned (.bool false)/\Chg (fun _=>False) w w':=by
 obtain ⟨h1,h2⟩:=cells2 w 32 83 (mA m) (iA x);have C0:=zI (chg2 w (.cells (mA m) 32) (.cells (iA x) 83));have hX1:=hX.later C0.out;have hg:=hX.few.2.2.1;have hm:=hX.few.2.2.2.1;obtain ⟨-,-,-,-,-,-,e6,e7,-,-⟩:=mcells h1;obtain ⟨g0,-,-,-,-,g5,-⟩:=icells h2;obtain ⟨w1,hw1⟩:∃ w1,w1=(w.alloc (.cells (mA m) 32)).alloc (.cells (iA x) 83):=⟨_,rfl⟩;rw[<-hw1] at h1 h2 C0 hX1;have HM:=zI (fun (w':World) (h:Chg (fun _=>False) w1 w')=>mcells (h1.chg h (fun h=>h)));have HI:=zI (fun (w':World) (h:Chg (fun _=>False) w1 w')=>icells (h2.chg h (fun h=>h)));have HX:=zI (fun (w':World) (h:Chg (fun _=>False) w1 w')=>hX1.later h);have HS:=zI (fun (w':World) (h:Chg (fun _=>False) w1 w')=>stage_any w' m y (hX1.later h).mo (by omega) hy);have hpl:(par X).length<=100:=by have:=hX.few.1;simpa [par] using this
 obtain ⟨st,hst⟩:∃ st,st=stF m y:=⟨_,rfl⟩;have q9:(x.op ==9)=false:=by exact beq_f (by omega)
 have q10:(x.op ==10)=true:=by exact beq_t (by omega)
 have dy:decide ((y:Int) < (m.gu.length:Int))=true:=by rw[dT];omega
 have dn:decide (0<=x.n)=false:=by rw[dF];exact hn
 clear h1 h2 hX hX1 hst ho;unfold mA iA at hw1 e6 e7 g0 g5 |-;go_enter Tryz.func77,Tryz.ntmps77;go_wp2_with fail
 rw[<-hw1];have M0:=fun n:KW w1=>HM.out n.w n.h
 have F0:=fun n:KW w1=>(M0 n).1
 have F1:=fun n:KW w1=>(M0 n).2.1
 have F2:=fun n:KW w1=>(M0 n).2.2.1
 have F3:=fun n:KW w1=>(M0 n).2.2.2.1
 have F4:=fun n:KW w1=>(M0 n).2.2.2.2.1
 have F5:=fun n:KW w1=>(M0 n).2.2.2.2.2.1
 have F6:=fun n:KW w1=>(M0 n).2.2.2.2.2.2.1
 have F7:=fun n:KW w1=>(M0 n).2.2.2.2.2.2.2.1
 have F8:=fun n:KW w1=>(M0 n).2.2.2.2.2.2.2.2.1
 have F9:=fun n:KW w1=>(M0 n).2.2.2.2.2.2.2.2.2
 have G0:=fun n:KW w1=>(HI.out n.w n.h).1
 have G5:=fun n:KW w1=>(HI.out n.w n.h).2.2.2.2.2.1
 have HL:=zI (fun n:KW w1=>kept_call (HS.out n.w n.h));unfold mA at HL;skip;clear M0 e6 e7 g0 g5 hw1 HM HI HX HS;refine wp_region_kept w1 (Chg.refl _ _) (by kernel_rfl) (by kernel_rfl) ?_;repeat (go_big_quiet_step (with_reducible exact HL.out _))
 refine wpQuiet_nil ?_;rintro w4 ⟨n,rfl⟩;have C4:=zI (Ct C0.out n.h);obtain ⟨w5,hw5⟩:∃ w5,w5=n.w:=⟨_,rfl⟩;rw[<-hw5] at C4 |-;clear hw5 F0 F1 F2 F3 F4 F5 F6 F7 F8 F9 G0 G5 HL;go_wp2
 go_ret;exact ⟨rfl,C4.out⟩
theorem by_C2 (w:World) (m:MC) (X:MX) (x:Nm.Inst) (y:Nat) (hX:XOK w m X) (hy:y < m.gu.length+m.mi.length) (ho:x.op=10) (hyl:y < m.gu.length) (hn:0<=x.n) (hn2:¬ x.n < m.mi.length):Calls Tryz.prog 77 #[.agg (mA m),.agg (iA x),.int .i64 y] w fun e w'=>e=.returned (.bool false)/\Chg (fun _=>False) w w':=by
 obtain ⟨h1,h2⟩:=cells2 w 32 83 (mA m) (iA x);have C0:=zI (chg2 w (.cells (mA m) 32) (.cells (iA x) 83));have hX1:=hX.later C0.out;have hg:=hX.few.2.2.1;have hm:=hX.few.2.2.2.1;obtain ⟨-,-,-,-,-,-,e6,e7,-,-⟩:=mcells h1;obtain ⟨g0,-,-,-,-,g5,-⟩:=icells h2;obtain ⟨w1,hw1⟩:∃ w1,w1=(w.alloc (.cells (mA m) 32)).alloc (.cells (iA x) 83):=⟨_,rfl⟩;rw[<-hw1] at h1 h2 C0 hX1;have HM:=zI (fun (w':World) (h:Chg (fun _=>False) w1 w')=>mcells (h1.chg h (fun h=>h)));have HI:=zI (fun (w':World) (h:Chg (fun _=>False) w1 w')=>icells (h2.chg h (fun h=>h)));have HX:=zI (fun (w':World) (h:Chg (fun _=>False) w1 w')=>hX1.later h);have HS:=zI (fun (w':World) (h:Chg (fun _=>False) w1 w')=>stage_any w' m y (hX1.later h).mo (by omega) hy);have hpl:(par X).length<=100:=by have:=hX.few.1;simpa [par] using this
 obtain ⟨st,hst⟩:∃ st,st=stF m y:=⟨_,rfl⟩;have q9:(x.op ==9)=false:=by exact beq_f (by omega)
 have q10:(x.op ==10)=true:=by exact beq_t (by omega)
 have dy:decide ((y:Int) < (m.gu.length:Int))=true:=by rw[dT];omega
 have dn:decide (0<=x.n)=true:=by rw[dT];exact hn
 have dn2:decide (x.n < (m.mi.length:Int))=false:=by rw[dF];exact hn2
 clear hn hn2;clear h1 h2 hX hX1 hst ho;unfold mA iA at hw1 e6 e7 g0 g5 |-;go_enter Tryz.func77,Tryz.ntmps77;go_wp2_with fail
 rw[<-hw1];have M0:=fun n:KW w1=>HM.out n.w n.h
 have F0:=fun n:KW w1=>(M0 n).1
 have F1:=fun n:KW w1=>(M0 n).2.1
 have F2:=fun n:KW w1=>(M0 n).2.2.1
 have F3:=fun n:KW w1=>(M0 n).2.2.2.1
 have F4:=fun n:KW w1=>(M0 n).2.2.2.2.1
 have F5:=fun n:KW w1=>(M0 n).2.2.2.2.2.1
 have F6:=fun n:KW w1=>(M0 n).2.2.2.2.2.2.1
 have F7:=fun n:KW w1=>(M0 n).2.2.2.2.2.2.2.1
 have F8:=fun n:KW w1=>(M0 n).2.2.2.2.2.2.2.2.1
 have F9:=fun n:KW w1=>(M0 n).2.2.2.2.2.2.2.2.2
 have G0:=fun n:KW w1=>(HI.out n.w n.h).1
 have G5:=fun n:KW w1=>(HI.out n.w n.h).2.2.2.2.2.1
 have HL:=zI (fun n:KW w1=>kept_call (HS.out n.w n.h));unfold mA at HL;skip;clear M0 e6 e7 g0 g5 hw1 HM HI HX HS;refine wp_region_kept w1 (Chg.refl _ _) (by kernel_rfl) (by kernel_rfl) ?_;repeat (go_big_quiet_step (with_reducible exact HL.out _))
 refine wpQuiet_nil ?_;rintro w4 ⟨n,rfl⟩;have C4:=zI (Ct C0.out n.h);obtain ⟨w5,hw5⟩:∃ w5,w5=n.w:=⟨_,rfl⟩;rw[<-hw5] at C4 |-;clear hw5 F0 F1 F2 F3 F4 F5 F6 F7 F8 F9 G0 G5 HL;go_wp2
 go_ret;exact ⟨rfl,C4.out⟩
theorem by_C3 (w:World) (m:MC) (X:MX) (x:Nm.Inst) (y:Nat) (hX:XOK w m X) (hy:y < m.gu.length+m.mi.length) (ho:x.op=10) (hyl:y < m.gu.length) (k:Nat) (hn:x.n=k) (hk:k < m.mi.length):Calls Tryz.prog 77 #[.agg (mA m),.agg (iA x),.int .i64 y] w fun e w'=>e=.returned (.bool (miS m x.n ==stF m y))/\Chg (fun _=>False) w w':=by
 obtain ⟨h1,h2⟩:=cells2 w 32 83 (mA m) (iA x);have C0:=zI (chg2 w (.cells (mA m) 32) (.cells (iA x) 83));have hX1:=hX.later C0.out;have hg:=hX.few.2.2.1;have hm:=hX.few.2.2.2.1;obtain ⟨-,-,-,-,-,-,e6,e7,-,-⟩:=mcells h1;obtain ⟨g0,-,-,-,-,g5,-⟩:=icells h2;obtain ⟨w1,hw1⟩:∃ w1,w1=(w.alloc (.cells (mA m) 32)).alloc (.cells (iA x) 83):=⟨_,rfl⟩;rw[<-hw1] at h1 h2 C0 hX1;have HM:=zI (fun (w':World) (h:Chg (fun _=>False) w1 w')=>mcells (h1.chg h (fun h=>h)));have HI:=zI (fun (w':World) (h:Chg (fun _=>False) w1 w')=>icells (h2.chg h (fun h=>h)));have HX:=zI (fun (w':World) (h:Chg (fun _=>False) w1 w')=>hX1.later h);have HS:=zI (fun (w':World) (h:Chg (fun _=>False) w1 w')=>stage_any w' m y (hX1.later h).mo (by omega) hy);have hpl:(par X).length<=100:=by have:=hX.few.1;simpa [par] using this
 obtain ⟨st,hst⟩:∃ st,st=stF m y:=⟨_,rfl⟩;have q9:(x.op ==9)=false:=by exact beq_f (by omega)
 have q10:(x.op ==10)=true:=by exact beq_t (by omega)
 have dy:decide ((y:Int) < (m.gu.length:Int))=true:=by rw[dT];omega
 have dn:decide ((0:Int)<=(k:Int))=true:=by simp
 have dn2:decide ((k:Int) < (m.mi.length:Int))=true:=by rw[dT];omega
 obtain ⟨z,hz⟩:∃ z,m.mi[k]?=some z:=⟨_,gG hk⟩;obtain ⟨b1,o1,hA,_,hc⟩:=row_at (f:=miC) (C:=5) (fun _=>rfl) (by omega) hX1.mo.mi hz;have c1:=hc 1 _ rfl;have hms:miS m x.n=z.stage:=by unfold miS;rw[hn,show ((k:Int)).toNat=k by omega,hz]
 rw[hms,<-hst];rw[<-hst] at HS;rw[hn] at g5;have hn':=zI hn;have HIn:=zI (fun (w':World) (h:Chg (fun _=>False) w1 w')=>(show w'.cell? ⟨w.heap.size+1,5,none⟩=some (.int .i64 (k:Int)) by rw[<-hn];exact (HI.out w' h).2.2.2.2.2.1));have HMn:=zI (fun (w':World) (h:Chg (fun _=>False) w1 w')=>(show w'.cell? ⟨w.heap.size,7,none⟩=some (.slice (some ⟨b1,o1,none⟩) m.mi.length m.cM) by rw[<-hA];exact (HM.out w' h).2.2.2.2.2.2.2.1));have HZ:=zI (fun (w':World) (h:Chg (fun _=>False) w1 w')=>keep_cell h (fun _ h=>h) c1);have e7':=e7.trans (show _=some (Value.slice (some ⟨b1,o1,none⟩) m.mi.length m.cM) by rw[hA]);have hAh:=zI hA;clear hn hc hz hms c1 hA;clear h1 h2 hX hX1 hst ho;unfold mA iA at hw1 e6 e7 g0 g5 |-;go_enter Tryz.func77,Tryz.ntmps77;go_wp2_with fail
 rw[<-hw1];have M0:=fun n:KW w1=>HM.out n.w n.h
 have F0:=fun n:KW w1=>(M0 n).1
 have F1:=fun n:KW w1=>(M0 n).2.1
 have F2:=fun n:KW w1=>(M0 n).2.2.1
 have F3:=fun n:KW w1=>(M0 n).2.2.2.1
 have F4:=fun n:KW w1=>(M0 n).2.2.2.2.1
 have F5:=fun n:KW w1=>(M0 n).2.2.2.2.2.1
 have F6:=fun n:KW w1=>(M0 n).2.2.2.2.2.2.1
 have F7:=fun n:KW w1=>(M0 n).2.2.2.2.2.2.2.1
 have F8:=fun n:KW w1=>(M0 n).2.2.2.2.2.2.2.2.1
 have F9:=fun n:KW w1=>(M0 n).2.2.2.2.2.2.2.2.2
 have G0:=fun n:KW w1=>(HI.out n.w n.h).1
 have G5:=fun n:KW w1=>(HI.out n.w n.h).2.2.2.2.2.1
 have HL:=zI (fun n:KW w1=>kept_call (HS.out n.w n.h));unfold mA at HL;rw[hAh.out] at HL;clear G5 F7;have G5:=fun n:KW w1=>HIn.out n.w n.h
 have F7:=fun n:KW w1=>HMn.out n.w n.h
 have Zn:=fun n:KW w1=>HZ.out n.w n.h
 clear HIn HMn HZ;clear M0 e6 e7 g0 g5 hw1 HM HI HX HS;refine wp_region_kept w1 (Chg.refl _ _) (by kernel_rfl) (by kernel_rfl) ?_;repeat (go_big_quiet_step (with_reducible exact HL.out _))
 refine wpQuiet_nil ?_;rintro w4 ⟨n,rfl⟩;have C4:=zI (Ct C0.out n.h);obtain ⟨w5,hw5⟩:∃ w5,w5=n.w:=⟨_,rfl⟩;rw[<-hw5] at C4 |-;clear hw5 F0 F1 F2 F3 F4 F5 F6 F7 F8 F9 G0 G5 HL;go_wp2
 go_ret;exact ⟨rfl,C4.out⟩
theorem by_any (w:World) (m:MC) (X:MX) (x:Nm.Inst) (y:Nat) (hX:XOK w m X) (hy:y < m.gu.length+m.mi.length):Calls Tryz.prog 77 #[.agg (mA m),.agg (iA x),.int .i64 y] w fun e w'=>e=.returned (.bool (byF m X x y))/\Chg (fun _=>False) w w':=by
 unfold byF;by_cases h9:x.op=9
 ·rw[if_pos h9];cases he:(stF m y ==x.n) with
  | true=>
   rw[Bool.true_or];by_cases hyl:y < m.gu.length
   ·exact by_A1 w m X x y hX hy h9 he hyl
   ·exact by_A1b w m X x y hX hy h9 he hyl
  | false=>
   rw[Bool.false_or];by_cases hyl:y < m.gu.length
   ·rw[show decide (y < m.gu.length)=true by simpa using hyl,Bool.not_true,Bool.false_and];exact by_A2 w m X x y hX hy h9 he hyl
   ·rw[show decide (y < m.gu.length)=false by simpa using hyl,Bool.not_false,Bool.true_and];exact by_A3 w m X x y hX hy h9 he hyl
 ·rw[if_neg h9];by_cases h10:x.op=10
  ·by_cases hyl:y < m.gu.length
   ·rw[if_neg (fun h=>h.2 hyl),beq_t h10,Bool.true_and];by_cases hn:0<=x.n
    ·rw[show decide (0<=x.n)=true by simpa using hn,Bool.true_and];by_cases hn2:x.n < m.mi.length
     ·rw[show decide (x.n < (m.mi.length:Int))=true by simpa using hn2,Bool.true_and];exact by_C3 w m X x y hX hy h10 hyl x.n.toNat (by omega) (by omega)
     ·rw[show decide (x.n < (m.mi.length:Int))=false by simpa using hn2,Bool.false_and];exact by_C2 w m X x y hX hy h10 hyl hn hn2
    ·rw[show decide (0<=x.n)=false by simpa using hn,Bool.false_and];exact by_C1 w m X x y hX hy h10 hyl hn
   ·rw[if_pos ⟨h10,hyl⟩];exact by_B w m X x y hX hy h10 hyl
  ·rw[if_neg (fun h=>h10 h.1),beq_f h10,Bool.false_and];exact by_D w m X x y hX hy h9 h10
end
end Go.Proofs.YthohgagkjnbkbaaGreat
