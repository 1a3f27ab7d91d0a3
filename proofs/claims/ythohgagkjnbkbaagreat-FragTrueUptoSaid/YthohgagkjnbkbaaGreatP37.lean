/- FragTrue, part 37: FrPd. Each theorem says what a function does, or a plain fact, under its own premises alone. -/
import Derived.Test.YthohgagkjnbkbaaGreatP31
import Derived.Test.YthohgagkjnbkbaaGreatP36
set_option maxRecDepth 100000
set_option maxHeartbeats 16000000
namespace Go.Proofs.YthohgagkjnbkbaaGreat
section
open Go.RowKit
def ptsX (s:Tr.T) (l:List Nm.Inst):List Nm.Inst:=match s with
 | .leaf _=>[]
 | .one _ x=>l.take (x.endOf+1)
 | .two _ x _=>l.take (x.endOf+1)
def ptsY (s:Tr.T) (l:List Nm.Inst):List Nm.Inst:=match s with
 | .two _ x y=>(l.drop (x.endOf+1)).take (y.endOf - x.endOf)
 | _=>[]
def ptsOk (s:Tr.T) (l:List Nm.Inst):Bool:=match s with
 | .leaf _=>false
 | .one _ _=>tlB (ptsX s l)
 | .two _ _ _=>tlB (ptsX s l) && tlB (ptsY s l)
def PtR (s:Tr.T) (l:List Nm.Inst) (e:Ending) (w':World):Prop:=∃ xA xc yA yc,e=.returned (.tuple #[.slice xA (ptsX s l).length xc,.slice yA (ptsY s l).length yc,.bool (ptsOk s l)])/\Rd w' w'.heap.size xA ((ptsX s l).flatMap instV7)/\Rd w' w'.heap.size yA ((ptsY s l).flatMap instV7)
theorem flat_take (l:List Nm.Inst) (k:Nat):(l.take k).flatMap instV7=(l.flatMap instV7).take (k * 7):=by
 induction l generalizing k with
 | nil=>simp
 | cons x l ih=>
  cases k with
  | zero=>simp
  | succ k=>rw[List.take_succ_cons,List.flatMap_cons,List.flatMap_cons,ih,List.take_append,show (instV7 x).length=7 from rfl,show (k+1) * 7 - 7=k * 7 by omega,(List.take_of_length_le (by show 7<=_;omega):(instV7 x).take ((k+1) * 7)=instV7 x)]
theorem flat_drop (l:List Nm.Inst) (k:Nat):(l.drop k).flatMap instV7=(l.flatMap instV7).drop (k * 7):=by
 induction l generalizing k with
 | nil=>simp
 | cons x l ih=>
  cases k with
  | zero=>simp
  | succ k=>rw[List.drop_succ_cons,List.flatMap_cons,ih,List.drop_append,show (instV7 x).length=7 from rfl,show (k+1) * 7 - 7=k * 7 by omega,(List.drop_eq_nil_of_le (by show 7<=_;omega):(instV7 x).drop ((k+1) * 7)=[]),List.nil_append]
theorem run_slLH {P:Program} {w:World} {a:Act} {t:TypeId} (ht:P.underlying t=some (.slice (P.elem t))) {i:TypeInfo} (hi:P.info? (P.elem t)=some i) {x l h:Nat} {A:Option Addr} {n c lo k s:Nat} (hs:i.size=s) (hx:(a.tmps[x]?).getD undef=.slice A n c) (hl:(a.tmps[l]?).getD undef=.int .i64 lo) (hh:(a.tmps[h]?).getD undef=.int .i64 k) (hk:lo<=k) (hn:k<=n) (hc:n<=c):
  ∃ A',(∀ o:Oper,o.op=.slice t (.tmp x) (some (.tmp l)) (some (.tmp h)) none->(execOp a.eval o).run P w=.ok (.value (.slice A' (k - lo) (c - lo))) w)/\∀ (w:World) (B:Nat) (xs:List Value) (j:Nat),xs.length=n * s->Rd w B A xs->Rd w B A' ((xs.drop (lo * s)).take j):=by
 have hr:=run_slice_lh (P:=P) w t A n c ht .i64 .i64 (lo:Int) (k:Int) (by omega) (by omega) (by omega);refine ⟨if c=lo then A else A.map (·.add (lo * s)),fun o ho=>?_,fun w B xs j hxl hR=>?_⟩
 ·have h2:=run_sliceAt_slice (P:=P) (w:=w) t (.slice A n c) (some (.int .i64 (lo:Int))) (some (.int .i64 (k:Int))) none ht;rw[hr] at h2;have hx':a.eval (.tmp x)=.slice A n c:=by rw[<-hx];simp[Act.eval]
  have hl':a.eval (.tmp l)=.int .i64 lo:=by rw[<-hl];simp[Act.eval]
  have hh':a.eval (.tmp h)=.int .i64 k:=by rw[<-hh];simp[Act.eval]
  simp[execOp,ho,hx',hl',hh',h2,sizeOf,typeInfo,hi,hs,Result.andThen,sliced]
 ·split
  ·intro hn0;rw[List.length_take,List.length_drop,hxl] at hn0;have:(n - lo) * s=n * s - lo * s:=Nat.sub_mul ..;rw[show n - lo=0 by omega] at this;omega
  ·exact (hR.drop _).same0 j
theorem parts_any (w:World) (A:Option Addr) (c:Nat) (l:List Nm.Inst) (a b:Int) (s:Tr.T) (e:Nat) (hl:l.length<=64) (hck:ckT l=0) (hc:l.length<=c) (hr:Rd w w.heap.size A (l.flatMap instV7)) (he:e < l.length) (heb:e+1=l.length - (if b=0 then 0 else 1)) (hs:Tr.WF (sg (shp l)) s 0 (e+1)):
  Calls Tryz.prog 16 #[.slice A l.length c,.agg #[.int .i64 a,.int .i64 b]] w fun e w'=>PtR s l e w'/\Chg (fun _=>False) w w':=by
 obtain ⟨i83,hi83,hz0,hz1,hz2⟩:=info_3 inst_info;have C1:Hid (Chg (fun _=>False) w (w.alloc (.cells #[.int .i64 a,.int .i64 b] 62))):=(Chg.refl _ w).alloc _;have HR:=zI (fun (w':World) (h:Chg (fun _=>False) w w')=>hr.later h (fun _ h=>h.elim));have hI:=zI (items_any _ A c l (by omega) (HR.out _ C1.out));obtain ⟨w1,hw1⟩:∃ w1,w1=w.alloc (.cells #[.int .i64 a,.int .i64 b] 62):=⟨_,rfl⟩;rw[<-hw1] at C1 hI;have hkids:=zI hs.kids;have HK:=zI (fun (w':World) (B:Option Addr) (bc:Nat) (hB:Rd w' w'.heap.size B (cellsI (shp l)))=>(by
  have:=kids_ok w' B bc (shp l) (by rw[shp_len];unfold maxLen;omega) hB e (by rw[shp_len];exact he) (by have:=hck;unfold ckT at this;rw[shp_len];exact this);rw[hkids.out] at this;exact this:Calls Tryz.prog 37 #[.slice B (shp l).length bc,.int .i64 e] w' fun e w''=>KidsR w' (s.kids.map (fun (n:Nat)=>(n:Int))) e w''))
 have hlm:Hid (l.map toItem=shp l):=Eq.refl _;rw[hlm.out] at hI;clear hr;obtain ⟨xb,xo,rfl,-,-⟩:=(HR.out w (Chg.refl _ _)).plain (by rw[instCs_len];omega);cases s with
 | leaf a0=>
  simp only[Tr.T.kids,List.map_nil] at HK;obtain ⟨bb,hbb⟩:∃ bb,(b !=0)=bb:=⟨_,rfl⟩;cases bb with
  | false=>
   have hb0:b=0:=by simpa using hbb
   rw[if_pos hb0] at heb;have hen:(l.length:Int) - 1=(e:Int):=by omega
   clear hck hb0;go_enter Tryz.func16,Tryz.ntmps16;go_wp2_with fail
   rw[<-hw1];clear hw1;go_at_call 14
   refine hI.out.mono ?_;rintro e' w2 ⟨B,bc,rfl,hB,hC2⟩;have C2:=zI (Ct C1.out hC2);have HKi:=zI (HK.out w2 B bc hB);clear hB hC2 hI HK;go_wp2_with fail
   go_at_call 37
   refine HKi.out.mono ?_;rintro e' w3 ⟨kA,kc,rfl,-,hkR,hC3,-⟩;have C3:=zI (Ct C2.out hC3);clear hC3 HKi;clear hkR;go_wp2
   exact bodyPost_ret (results_tmp3 rfl _ _ _) rfl ⟨⟨none,0,none,0,rfl,rd_nil _ _ _,rd_nil _ _ _⟩,C3.out⟩
  | true=>
   have hb0:b ≠ 0:=by simpa using hbb
   rw[if_neg hb0] at heb;have hen:(l.length:Int) - 1 - 1=(e:Int):=by omega
   clear hck hb0;go_enter Tryz.func16,Tryz.ntmps16;go_wp2_with fail
   rw[<-hw1];clear hw1;go_at_call 14
   refine hI.out.mono ?_;rintro e' w2 ⟨B,bc,rfl,hB,hC2⟩;have C2:=zI (Ct C1.out hC2);have HKi:=zI (HK.out w2 B bc hB);clear hB hC2 hI HK;go_wp2_with fail
   go_at_call 37
   refine HKi.out.mono ?_;rintro e' w3 ⟨kA,kc,rfl,-,hkR,hC3,-⟩;have C3:=zI (Ct C2.out hC3);clear hC3 HKi;clear hkR;go_wp2
   exact bodyPost_ret (results_tmp3 rfl _ _ _) rfl ⟨⟨none,0,none,0,rfl,rd_nil _ _ _,rd_nil _ _ _⟩,C3.out⟩
 | one a0 s'=>
  simp only[Tr.WF] at hs;have hse:=hs.2.2.end_;simp only[Tr.T.kids,List.map_cons,List.map_nil] at HK;obtain ⟨k0,hk0⟩:∃ k0,k0=s'.endOf:=⟨_,rfl⟩;rw[<-hk0] at HK hse;have hkn:k0+1<=l.length:=by omega
  have hkc:k0+1<=c:=by omega
  replace hk0:=zI hk0;replace hse:=zI hse;clear hkids;obtain ⟨bb,hbb⟩:∃ bb,(b !=0)=bb:=⟨_,rfl⟩;cases bb with
  | false=>
   have hb0:b=0:=by simpa using hbb
   rw[if_pos hb0] at heb;have hen:(l.length:Int) - 1=(e:Int):=by omega
   clear hck hb0;go_enter Tryz.func16,Tryz.ntmps16;go_wp2_with fail
   rw[<-hw1];clear hw1;go_at_call 14
   refine hI.out.mono ?_;rintro e' w2 ⟨B,bc,rfl,hB,hC2⟩;have C2:=zI (Ct C1.out hC2);have HKi:=zI (HK.out w2 B bc hB);clear hB hC2 hI HK;go_wp2_with fail
   go_at_call 37
   refine HKi.out.mono ?_;rintro e' w3 ⟨kA,kc,rfl,-,hkR,hC3,-⟩;have C3:=zI (Ct C2.out hC3);clear hC3 HKi;obtain ⟨kb,ko,rfl,-,kc0⟩:=int_at hkR (show ([(k0:Int)])[0]?=some (k0:Int) from rfl);have HK0:=zI (fun (w':World) (h:Chg (fun _=>False) w3 w')=>(keep_cell h (fun _ h=>h) kc0:w'.cell? ⟨kb,ko,none⟩=some (.int .i64 (k0:Int))));have c0:(w3.alloc (.cells #[] 83)).cell? ⟨kb,ko,none⟩=some (.int .i64 (k0:Int)):=keep_cell ((Chg.refl _ w3).alloc _) (fun _ h=>h) kc0;have hRt:=zI ((HR.out (w3.alloc (.cells #[] 83)) (C3.out.alloc _)));clear kc0;go_wp2_with (
    at_builtin
    refine wpList_copy rfl (.tmp 24) (.tmp 30) 33 rfl w3.heap.size 83 i83 _ 7 56 Tryz.underlying33 hi83 hz0 hz1 hz2 rfl (by omega) (.slice (some ⟨w3.heap.size,0,none⟩) 0 0) 0 [] rfl (World.ownsRow_lit w3 #[] 0 (Nat.le_refl _) (Nat.zero_le _) rfl) (some ⟨xb,xo,none⟩) (k0+1) c _ ((l.take (k0+1)).flatMap instV7) rfl (by rw[instCs_len,List.length_take];omega) (by rw[flat_take];exact hRt.out.same0 _) (instCs_one _) (by unfold maxLen;omega) (by omega) (by simp) ?_;intro v4 w4 hO4 hg4;rw[Nat.zero_add,List.nil_append] at hO4;have C34:Hid (Chg (fun _=>False) w3 w4):=Chg.trans ((Chg.refl (fun _=>False) w3).alloc (.cells #[] 83)) (Chg.grown (S:=fun k=>k=w3.heap.size) (Chg.refl _ _) hg4 (fun k hk=>.inl (by simp[Value.ownBlock] at hk;omega))) (fun i hi e=>by omega);obtain ⟨xA,xc,rfl,-,-⟩:=own_slice hO4;have hXr:=zI (own_rdN hO4);have C4:=zI (Ct C3.out C34.out);have k4:=HK0.out w4 C34.out;clear hO4 hg4 c0 hRt)
   have hXl:Hid ((l.take (k0+1)).length=k0+1):=by show _=_;rw[List.length_take];omega
   have HT:=zI (timeless_any w4 xA xc (l.take (k0+1)) (by rw[hXl.out];omega) hXr.out);rw[hXl.out] at HT;obtain ⟨tx,htx⟩:∃ tx,tx=tlB (l.take (k0+1)):=⟨_,rfl⟩;rw[<-htx] at HT;replace htx:=zI htx;have hPX:Hid (ptsX (.one a0 s') l=l.take (k0+1)):=by show l.take (s'.endOf+1)=_;rw[hk0.out]
   have hPO:Hid (ptsOk (.one a0 s') l=tx):=by show tlB (ptsX (.one a0 s') l)=_;rw[hPX.out,htx.out]
   go_wp2_with fail
   go_at_call 38
   refine HT.out.mono ?_;rintro e' w5 ⟨rfl,hC5⟩;have hXr5:=zI (hXr.out.later hC5 (fun _ h=>h.elim));have C5:=zI (Ct C4.out hC5);clear hC5 HT k4;cases tx<;>(
    go_wp2
    exact bodyPost_ret (results_tmp3 rfl _ _ _) rfl ⟨⟨xA,xc,none,0,by rw[hPX.out,hPO.out,hXl.out];rfl,by rw[hPX.out];exact hXr5.out,rd_nil _ _ _⟩,C5.out⟩)
  | true=>
   have hb0:b ≠ 0:=by simpa using hbb
   rw[if_neg hb0] at heb;have hen:(l.length:Int) - 1 - 1=(e:Int):=by omega
   clear hck hb0;go_enter Tryz.func16,Tryz.ntmps16;go_wp2_with fail
   rw[<-hw1];clear hw1;go_at_call 14
   refine hI.out.mono ?_;rintro e' w2 ⟨B,bc,rfl,hB,hC2⟩;have C2:=zI (Ct C1.out hC2);have HKi:=zI (HK.out w2 B bc hB);clear hB hC2 hI HK;go_wp2_with fail
   go_at_call 37
   refine HKi.out.mono ?_;rintro e' w3 ⟨kA,kc,rfl,-,hkR,hC3,-⟩;have C3:=zI (Ct C2.out hC3);clear hC3 HKi;obtain ⟨kb,ko,rfl,-,kc0⟩:=int_at hkR (show ([(k0:Int)])[0]?=some (k0:Int) from rfl);have HK0:=zI (fun (w':World) (h:Chg (fun _=>False) w3 w')=>(keep_cell h (fun _ h=>h) kc0:w'.cell? ⟨kb,ko,none⟩=some (.int .i64 (k0:Int))));have c0:(w3.alloc (.cells #[] 83)).cell? ⟨kb,ko,none⟩=some (.int .i64 (k0:Int)):=keep_cell ((Chg.refl _ w3).alloc _) (fun _ h=>h) kc0;have hRt:=zI ((HR.out (w3.alloc (.cells #[] 83)) (C3.out.alloc _)));clear kc0;go_wp2_with (
    at_builtin
    refine wpList_copy rfl (.tmp 24) (.tmp 30) 33 rfl w3.heap.size 83 i83 _ 7 56 Tryz.underlying33 hi83 hz0 hz1 hz2 rfl (by omega) (.slice (some ⟨w3.heap.size,0,none⟩) 0 0) 0 [] rfl (World.ownsRow_lit w3 #[] 0 (Nat.le_refl _) (Nat.zero_le _) rfl) (some ⟨xb,xo,none⟩) (k0+1) c _ ((l.take (k0+1)).flatMap instV7) rfl (by rw[instCs_len,List.length_take];omega) (by rw[flat_take];exact hRt.out.same0 _) (instCs_one _) (by unfold maxLen;omega) (by omega) (by simp) ?_;intro v4 w4 hO4 hg4;rw[Nat.zero_add,List.nil_append] at hO4;have C34:Hid (Chg (fun _=>False) w3 w4):=Chg.trans ((Chg.refl (fun _=>False) w3).alloc (.cells #[] 83)) (Chg.grown (S:=fun k=>k=w3.heap.size) (Chg.refl _ _) hg4 (fun k hk=>.inl (by simp[Value.ownBlock] at hk;omega))) (fun i hi e=>by omega);obtain ⟨xA,xc,rfl,-,-⟩:=own_slice hO4;have hXr:=zI (own_rdN hO4);have C4:=zI (Ct C3.out C34.out);have k4:=HK0.out w4 C34.out;clear hO4 hg4 c0 hRt)
   have hXl:Hid ((l.take (k0+1)).length=k0+1):=by show _=_;rw[List.length_take];omega
   have HT:=zI (timeless_any w4 xA xc (l.take (k0+1)) (by rw[hXl.out];omega) hXr.out);rw[hXl.out] at HT;obtain ⟨tx,htx⟩:∃ tx,tx=tlB (l.take (k0+1)):=⟨_,rfl⟩;rw[<-htx] at HT;replace htx:=zI htx;have hPX:Hid (ptsX (.one a0 s') l=l.take (k0+1)):=by show l.take (s'.endOf+1)=_;rw[hk0.out]
   have hPO:Hid (ptsOk (.one a0 s') l=tx):=by show tlB (ptsX (.one a0 s') l)=_;rw[hPX.out,htx.out]
   go_wp2_with fail
   go_at_call 38
   refine HT.out.mono ?_;rintro e' w5 ⟨rfl,hC5⟩;have hXr5:=zI (hXr.out.later hC5 (fun _ h=>h.elim));have C5:=zI (Ct C4.out hC5);clear hC5 HT k4;cases tx<;>(
    go_wp2
    exact bodyPost_ret (results_tmp3 rfl _ _ _) rfl ⟨⟨xA,xc,none,0,by rw[hPX.out,hPO.out,hXl.out];rfl,by rw[hPX.out];exact hXr5.out,rd_nil _ _ _⟩,C5.out⟩)
 | two a0 u v=>
  simp only[Tr.WF] at hs;obtain ⟨hsa,-,m,hsu,hsv⟩:=hs;have hue:=hsu.end_;have hve:=hsv.end_;have hvl:=hsv.lt;simp only[Tr.T.kids,List.map_cons,List.map_nil] at HK;obtain ⟨k0,hk0⟩:∃ k0,k0=u.endOf:=⟨_,rfl⟩;obtain ⟨k1,hk1⟩:∃ k1,k1=v.endOf:=⟨_,rfl⟩;rw[<-hk0,<-hk1] at HK;rw[<-hk0] at hue;rw[<-hk1] at hve;have hkn:k0+1<=l.length:=by omega
  have hkc:k0+1<=c:=by omega
  have hk1n:k1+1<=l.length:=by omega
  have hkk:k0<=k1:=by omega
  replace hk0:=zI hk0;replace hk1:=zI hk1;clear hkids hue hve hvl hsa hsu hsv;obtain ⟨bb,hbb⟩:∃ bb,(b !=0)=bb:=⟨_,rfl⟩;cases bb with
  | false=>
   have hb0:b=0:=by simpa using hbb
   rw[if_pos hb0] at heb;have hen:(l.length:Int) - 1=(e:Int):=by omega
   clear hck hb0;go_enter Tryz.func16,Tryz.ntmps16;go_wp2_with fail
   rw[<-hw1];clear hw1;go_at_call 14
   refine hI.out.mono ?_;rintro e' w2 ⟨B,bc,rfl,hB,hC2⟩;have C2:=zI (Ct C1.out hC2);have HKi:=zI (HK.out w2 B bc hB);clear hB hC2 hI HK;go_wp2_with fail
   go_at_call 37
   refine HKi.out.mono ?_;rintro e' w3 ⟨kA,kc,rfl,-,hkR,hC3,-⟩;have C3:=zI (Ct C2.out hC3);clear hC3 HKi;obtain ⟨kb,ko,rfl,-,kc0⟩:=int_at hkR (show ([(k0:Int),(k1:Int)])[0]?=some (k0:Int) from rfl);obtain ⟨kb',ko',ek,-,kc1⟩:=int_at hkR (show ([(k0:Int),(k1:Int)])[1]?=some (k1:Int) from rfl);injection ek with ek;injection ek with ek1 ek2 _;subst ek1;subst ek2;have HK1:=zI (fun (w':World) (h:Chg (fun _=>False) w3 w')=>keep_cell h (fun _ h=>h) kc1);clear kc1;have HK0:=zI (fun (w':World) (h:Chg (fun _=>False) w3 w')=>(keep_cell h (fun _ h=>h) kc0:w'.cell? ⟨kb,ko,none⟩=some (.int .i64 (k0:Int))));have c0:(w3.alloc (.cells #[] 83)).cell? ⟨kb,ko,none⟩=some (.int .i64 (k0:Int)):=keep_cell ((Chg.refl _ w3).alloc _) (fun _ h=>h) kc0;have hRt:=zI ((HR.out (w3.alloc (.cells #[] 83)) (C3.out.alloc _)));clear kc0;go_wp2_with (
    at_builtin
    refine wpList_copy rfl (.tmp 24) (.tmp 30) 33 rfl w3.heap.size 83 i83 _ 7 56 Tryz.underlying33 hi83 hz0 hz1 hz2 rfl (by omega) (.slice (some ⟨w3.heap.size,0,none⟩) 0 0) 0 [] rfl (World.ownsRow_lit w3 #[] 0 (Nat.le_refl _) (Nat.zero_le _) rfl) (some ⟨xb,xo,none⟩) (k0+1) c _ ((l.take (k0+1)).flatMap instV7) rfl (by rw[instCs_len,List.length_take];omega) (by rw[flat_take];exact hRt.out.same0 _) (instCs_one _) (by unfold maxLen;omega) (by omega) (by simp) ?_;intro v4 w4 hO4 hg4;rw[Nat.zero_add,List.nil_append] at hO4;have C34:Hid (Chg (fun _=>False) w3 w4):=Chg.trans ((Chg.refl (fun _=>False) w3).alloc (.cells #[] 83)) (Chg.grown (S:=fun k=>k=w3.heap.size) (Chg.refl _ _) hg4 (fun k hk=>.inl (by simp[Value.ownBlock] at hk;omega))) (fun i hi e=>by omega);obtain ⟨xA,xc,rfl,-,-⟩:=own_slice hO4;have hXr:=zI (own_rdN hO4);have C4:=zI (Ct C3.out C34.out);have k4:=HK0.out w4 C34.out;clear hO4 hg4 c0 hRt)
   have hk01:k0+1<=k1+1:=by omega
   obtain ⟨q,hq⟩:∃ q,q=k1+1 - (k0+1):=⟨_,rfl⟩;have hql:q<=64:=by omega
   obtain ⟨Y,hY⟩:∃ Y,Y=(l.drop (k0+1)).take q:=⟨_,rfl⟩;have hYl:Hid (Y.length=q):=by show _=_;rw[hY,List.length_take,List.length_drop];omega
   have hYc:Hid (∀ (w:World) (B:Nat) (A':Option Addr),Rd w B A' (((l.flatMap instV7).drop ((k0+1) * 7)).take (q * 7))->Rd w B A' (Y.flatMap instV7)):=fun w B A' h=>by rw[hY,flat_take,flat_drop];exact h
   have hp0:IntKind.i64.wrap ((k0:Int)+1)=((k0+1:Nat):Int):=by rw[IntKind.wrap_i64];omega
   have hp1:IntKind.i64.wrap ((k1:Int)+1)=((k1+1:Nat):Int):=by rw[IntKind.wrap_i64];omega
   have Z4:=zI (fun (w':World) (h:Chg (fun _=>False) w4 w')=>(Ct C34.out h:Chg (fun _=>False) w3 w'));replace hq:=zI hq;replace hY:=zI hY;go_wp2_with fail
   clear k4;refine region_sp (by kernel_rfl) [some 35,some 36,some 37,some 38,some 39,some 40,some 41,some 42,some 43,some 44,some 45,some 46,some 5] [35,36,37,38,39,40,41,42,43,44,45,46,5] [.su (fun v w=>∃ g,v=.slice (some ⟨g,0,none⟩) 0 0/\Blk w g 83 #[]),.is (.slice (some ⟨xb,xo,none⟩) l.length c),.is (.slice (some ⟨kb,ko,none⟩) 2 kc),.is (.pointer (some ⟨kb,ko,none⟩)),.is (.int .i64 (k0:Int)),.is (.int .i64 ((k0+1:Nat):Int)),.is (.slice (some ⟨kb,ko,none⟩) 2 kc),.is (.pointer (some ⟨kb,ko+1,none⟩)),.is (.int .i64 (k1:Int)),.is (.int .i64 ((k1+1:Nat):Int)),.su (fun v w=>∃ A',v=.slice A' (k1+1 - (k0+1)) (c - (k0+1))/\Rd w w.heap.size A' (Y.flatMap instV7)),.su (fun v w=>∃ A' c',v=.slice A' q c'/\Rd w w.heap.size A' (Y.flatMap instV7)),.su (fun v w=>∃ A' c',v=.slice A' q c'/\Rd w w.heap.size A' (Y.flatMap instV7))] (fun _=>False) (by kernel_rfl) (by kernel_rfl) ?_ ?_
   ·refine ⟨?_,?_,?_,?_,?_,?_,?_,?_,?_,?_,?_,?_,?_,trivial⟩
    ·intro f a wz _ _ _ _;exact st_su rfl rfl (run_lit0 rfl Tryz.underlying33 hi83) rfl ⟨_,rfl,Blk.new wz 83 #[]⟩ ((Chg.refl _ _).alloc _) (by simp)
    ·intro f a wz _ hout _ _;have x0:(a.tmps[0]?).getD undef=.slice (some ⟨xb,xo,none⟩) l.length c:=hout 0 (by rfl);exact st_is rfl rfl (by simp[execOp,go_sem,x0]) rfl (by simp)
    ·intro f a wz _ hout _ _;have x8:(a.tmps[8]?).getD undef=.slice (some ⟨kb,ko,none⟩) 2 kc:=hout 8 (by rfl);exact st_is rfl rfl (by simp[execOp,go_sem,x8]) rfl (by simp)
    ·intro f a wz hin _ _ hd;have x37:(a.tmps[37]?).getD undef=.slice (some ⟨kb,ko,none⟩) 2 kc:=(hin 37 (by rfl)).trans (hd 2 (by kernel_rfl));exact st_is rfl rfl (by simp[execOp,go_sem,Result.andThen,x37]) rfl (by simp)
    ·intro f a wz hin _ hC hd;have x38:(a.tmps[38]?).getD undef=.pointer (some ⟨kb,ko,none⟩):=(hin 38 (by rfl)).trans (hd 3 (by kernel_rfl));exact st_is rfl rfl (by simp[execOp,go_sem,Result.andThen,x38,HK0.out wz (Z4.out wz hC)]) rfl (by simp)
    ·intro f a wz hin _ _ hd;have x39:(a.tmps[39]?).getD undef=.int .i64 (k0:Int):=(hin 39 (by rfl)).trans (hd 4 (by kernel_rfl));exact st_is rfl rfl (by simp[execOp,go_sem,x39,hp0]) rfl (by simp)
    ·intro f a wz _ hout _ _;have x8:(a.tmps[8]?).getD undef=.slice (some ⟨kb,ko,none⟩) 2 kc:=hout 8 (by rfl);exact st_is rfl rfl (by simp[execOp,go_sem,x8]) rfl (by simp)
    ·intro f a wz hin _ _ hd;have x41:(a.tmps[41]?).getD undef=.slice (some ⟨kb,ko,none⟩) 2 kc:=(hin 41 (by rfl)).trans (hd 6 (by kernel_rfl));exact st_is rfl rfl (by simp[execOp,go_sem,Result.andThen,x41]) rfl (by simp)
    ·intro f a wz hin _ hC hd;have x42:(a.tmps[42]?).getD undef=.pointer (some ⟨kb,ko+1,none⟩):=(hin 42 (by rfl)).trans (hd 7 (by kernel_rfl));exact st_is rfl rfl (by simp[execOp,go_sem,Result.andThen,x42,HK1.out wz (Z4.out wz hC)]) rfl (by simp)
    ·intro f a wz hin _ _ hd;have x43:(a.tmps[43]?).getD undef=.int .i64 (k1:Int):=(hin 43 (by rfl)).trans (hd 8 (by kernel_rfl));exact st_is rfl rfl (by simp[execOp,go_sem,x43,hp1]) rfl (by simp)
    ·intro f a wz hin _ hC hd;have x36:(a.tmps[36]?).getD undef=.slice (some ⟨xb,xo,none⟩) l.length c:=(hin 36 (by rfl)).trans (hd 1 (by kernel_rfl));have x40:(a.tmps[40]?).getD undef=.int .i64 ((k0+1:Nat):Int):=(hin 40 (by rfl)).trans (hd 5 (by kernel_rfl));have x44:(a.tmps[44]?).getD undef=.int .i64 ((k1+1:Nat):Int):=(hin 44 (by rfl)).trans (hd 9 (by kernel_rfl));obtain ⟨A',hr',hR'⟩:=run_slLH (P:=Tryz.prog) (w:=wz) (t:=33) Tryz.underlying33 hi83 hz1 x36 x40 x44 hk01 hk1n hc;exact st_su rfl rfl (hr' _ rfl) rfl ⟨A',rfl,hYc.out _ _ _ (hR' wz _ _ _ (instCs_len _) (HR.out wz (Ct C4.out hC)))⟩ (Chg.refl _ _) (by simp)
    ·intro f a wz hin _ _ hd;obtain ⟨v35w,v35c,v35p⟩:=hd 0 (by kernel_rfl);have x35:=hin 35 (by rfl);obtain ⟨v45w,v45c,v45p⟩:=hd 10 (by kernel_rfl);have x45:=hin 45 (by rfl);obtain ⟨g,e35,hg⟩:=v35p;obtain ⟨A2,e45,hA2⟩:=v45p;obtain ⟨A',c',w',hr',h1,h2,h3,h4,h5,h6⟩:=run_freshT (P:=Tryz.prog) wz 33 33 83 i83 _ 7 56 Tryz.underlying33 hi83 hz0 hz1 hz2 rfl (by omega) g A2 q (c - (k0+1)) wz.heap.size (Y.flatMap instV7) (by rw[instCs_len,hYl.out]) (hA2.later v45c (fun _ h=>h.elim)) (instCs_one _) (by unfold maxLen;omega) (by omega) (hg.chg v35c (fun h=>h));exact st_su rfl rfl (run_app rfl (x35.trans e35) (by rw[hq.out];exact x45.trans e45) hr') rfl ⟨A',c',rfl,h1⟩ h2 (by simp)
    ·intro f a wz hin _ _ hd;obtain ⟨v46w,v46c,v46p⟩:=hd 11 (by kernel_rfl);have x46:=hin 46 (by rfl);obtain ⟨A2,c2,e46,hA2⟩:=v46p;exact st_su (v:=f 46) rfl rfl (by simp[execOp,go_sem,x46]) rfl ⟨A2,c2,e46,hA2.later v46c (fun _ h=>h.elim)⟩ (Chg.refl _ _) (by simp)
   ·intro f w5 hC5 hd;obtain ⟨v5w,v5c,yA,yc,e5,hYr⟩:spS (fun _=>False) _ 12 (f 5) w5:=hd 12 (show 12 < 13 by omega);have hYr5:=zI (hYr.later v5c (fun _ h=>h.elim));have hXr5:=zI (hXr.out.later hC5 (fun _ h=>h.elim));have C5:=zI (Ct C4.out hC5);clear hd hC5 v5c hYr;simp only[putAll,List.setIfInBounds_toArray,List.set_cons_succ,List.set_cons_zero,e5];clear e5;have hXl:Hid ((l.take (k0+1)).length=k0+1):=by show _=_;rw[List.length_take];omega
    have HT:=zI (timeless_any w5 xA xc (l.take (k0+1)) (by rw[hXl.out];omega) hXr5.out);rw[hXl.out] at HT;obtain ⟨tx,htx⟩:∃ tx,tx=tlB (l.take (k0+1)):=⟨_,rfl⟩;rw[<-htx] at HT;replace htx:=zI htx;have HY:=zI (fun (w':World) (h:Chg (fun _=>False) w5 w')=>by
     have:=timeless_any w' yA yc Y (by rw[hYl.out];omega) (hYr5.out.later h (fun _ h=>h.elim));rw[hYl.out] at this;exact this)
    obtain ⟨ty,hty⟩:∃ ty,ty=tlB Y:=⟨_,rfl⟩;rw[<-hty] at HY;replace hty:=zI hty;have hPX:Hid (ptsX (.two a0 u v) l=l.take (k0+1)):=by show l.take (u.endOf+1)=_;rw[hk0.out]
    have hPY:Hid (ptsY (.two a0 u v) l=Y):=by show (l.drop (u.endOf+1)).take (v.endOf - u.endOf)=_;rw[hY.out,hk0.out,hq.out,hk1.out,show v.endOf+1 - (k0+1)=v.endOf - k0 by omega,hk0.out]
    have hPO:Hid (ptsOk (.two a0 u v) l=(tx && ty)):=by show (tlB (ptsX (.two a0 u v) l) && tlB (ptsY (.two a0 u v) l))=_;rw[hPX.out,hPY.out,htx.out,hty.out]
    go_wp2_with fail
    go_at_call 38
    refine HT.out.mono ?_;rintro e' w6 ⟨rfl,hC6⟩;have C56:=zI hC6;clear hC6 HT;cases tx with
    | false=>
     go_wp2
     exact bodyPost_ret (results_tmp3 rfl _ _ _) rfl ⟨⟨xA,xc,yA,yc,by rw[hPX.out,hPY.out,hPO.out,hXl.out,hYl.out];rfl,by rw[hPX.out];exact hXr5.out.later C56.out (fun _ h=>h.elim),by rw[hPY.out];exact hYr5.out.later C56.out (fun _ h=>h.elim)⟩,Ct C5.out C56.out⟩
    | true=>
     go_wp2_with fail
     go_at_call 38
     refine (HY.out w6 C56.out).mono ?_;rintro e' w7 ⟨rfl,hC7⟩;have C57:=zI (Ct C56.out hC7);clear hC7 HY;go_wp2
     exact bodyPost_ret (results_tmp3 rfl _ _ _) rfl ⟨⟨xA,xc,yA,yc,by rw[hPX.out,hPY.out,hPO.out,hXl.out,hYl.out];rfl,by rw[hPX.out];exact hXr5.out.later C57.out (fun _ h=>h.elim),by rw[hPY.out];exact hYr5.out.later C57.out (fun _ h=>h.elim)⟩,Ct C5.out C57.out⟩
  | true=>
   have hb0:b ≠ 0:=by simpa using hbb
   rw[if_neg hb0] at heb;have hen:(l.length:Int) - 1 - 1=(e:Int):=by omega
   clear hck hb0;go_enter Tryz.func16,Tryz.ntmps16;go_wp2_with fail
   rw[<-hw1];clear hw1;go_at_call 14
   refine hI.out.mono ?_;rintro e' w2 ⟨B,bc,rfl,hB,hC2⟩;have C2:=zI (Ct C1.out hC2);have HKi:=zI (HK.out w2 B bc hB);clear hB hC2 hI HK;go_wp2_with fail
   go_at_call 37
   refine HKi.out.mono ?_;rintro e' w3 ⟨kA,kc,rfl,-,hkR,hC3,-⟩;have C3:=zI (Ct C2.out hC3);clear hC3 HKi;obtain ⟨kb,ko,rfl,-,kc0⟩:=int_at hkR (show ([(k0:Int),(k1:Int)])[0]?=some (k0:Int) from rfl);obtain ⟨kb',ko',ek,-,kc1⟩:=int_at hkR (show ([(k0:Int),(k1:Int)])[1]?=some (k1:Int) from rfl);injection ek with ek;injection ek with ek1 ek2 _;subst ek1;subst ek2;have HK1:=zI (fun (w':World) (h:Chg (fun _=>False) w3 w')=>keep_cell h (fun _ h=>h) kc1);clear kc1;have HK0:=zI (fun (w':World) (h:Chg (fun _=>False) w3 w')=>(keep_cell h (fun _ h=>h) kc0:w'.cell? ⟨kb,ko,none⟩=some (.int .i64 (k0:Int))));have c0:(w3.alloc (.cells #[] 83)).cell? ⟨kb,ko,none⟩=some (.int .i64 (k0:Int)):=keep_cell ((Chg.refl _ w3).alloc _) (fun _ h=>h) kc0;have hRt:=zI ((HR.out (w3.alloc (.cells #[] 83)) (C3.out.alloc _)));clear kc0;go_wp2_with (
    at_builtin
    refine wpList_copy rfl (.tmp 24) (.tmp 30) 33 rfl w3.heap.size 83 i83 _ 7 56 Tryz.underlying33 hi83 hz0 hz1 hz2 rfl (by omega) (.slice (some ⟨w3.heap.size,0,none⟩) 0 0) 0 [] rfl (World.ownsRow_lit w3 #[] 0 (Nat.le_refl _) (Nat.zero_le _) rfl) (some ⟨xb,xo,none⟩) (k0+1) c _ ((l.take (k0+1)).flatMap instV7) rfl (by rw[instCs_len,List.length_take];omega) (by rw[flat_take];exact hRt.out.same0 _) (instCs_one _) (by unfold maxLen;omega) (by omega) (by simp) ?_;intro v4 w4 hO4 hg4;rw[Nat.zero_add,List.nil_append] at hO4;have C34:Hid (Chg (fun _=>False) w3 w4):=Chg.trans ((Chg.refl (fun _=>False) w3).alloc (.cells #[] 83)) (Chg.grown (S:=fun k=>k=w3.heap.size) (Chg.refl _ _) hg4 (fun k hk=>.inl (by simp[Value.ownBlock] at hk;omega))) (fun i hi e=>by omega);obtain ⟨xA,xc,rfl,-,-⟩:=own_slice hO4;have hXr:=zI (own_rdN hO4);have C4:=zI (Ct C3.out C34.out);have k4:=HK0.out w4 C34.out;clear hO4 hg4 c0 hRt)
   have hk01:k0+1<=k1+1:=by omega
   obtain ⟨q,hq⟩:∃ q,q=k1+1 - (k0+1):=⟨_,rfl⟩;have hql:q<=64:=by omega
   obtain ⟨Y,hY⟩:∃ Y,Y=(l.drop (k0+1)).take q:=⟨_,rfl⟩;have hYl:Hid (Y.length=q):=by show _=_;rw[hY,List.length_take,List.length_drop];omega
   have hYc:Hid (∀ (w:World) (B:Nat) (A':Option Addr),Rd w B A' (((l.flatMap instV7).drop ((k0+1) * 7)).take (q * 7))->Rd w B A' (Y.flatMap instV7)):=fun w B A' h=>by rw[hY,flat_take,flat_drop];exact h
   have hp0:IntKind.i64.wrap ((k0:Int)+1)=((k0+1:Nat):Int):=by rw[IntKind.wrap_i64];omega
   have hp1:IntKind.i64.wrap ((k1:Int)+1)=((k1+1:Nat):Int):=by rw[IntKind.wrap_i64];omega
   have Z4:=zI (fun (w':World) (h:Chg (fun _=>False) w4 w')=>(Ct C34.out h:Chg (fun _=>False) w3 w'));replace hq:=zI hq;replace hY:=zI hY;go_wp2_with fail
   clear k4;refine region_sp (by kernel_rfl) [some 35,some 36,some 37,some 38,some 39,some 40,some 41,some 42,some 43,some 44,some 45,some 46,some 5] [35,36,37,38,39,40,41,42,43,44,45,46,5] [.su (fun v w=>∃ g,v=.slice (some ⟨g,0,none⟩) 0 0/\Blk w g 83 #[]),.is (.slice (some ⟨xb,xo,none⟩) l.length c),.is (.slice (some ⟨kb,ko,none⟩) 2 kc),.is (.pointer (some ⟨kb,ko,none⟩)),.is (.int .i64 (k0:Int)),.is (.int .i64 ((k0+1:Nat):Int)),.is (.slice (some ⟨kb,ko,none⟩) 2 kc),.is (.pointer (some ⟨kb,ko+1,none⟩)),.is (.int .i64 (k1:Int)),.is (.int .i64 ((k1+1:Nat):Int)),.su (fun v w=>∃ A',v=.slice A' (k1+1 - (k0+1)) (c - (k0+1))/\Rd w w.heap.size A' (Y.flatMap instV7)),.su (fun v w=>∃ A' c',v=.slice A' q c'/\Rd w w.heap.size A' (Y.flatMap instV7)),.su (fun v w=>∃ A' c',v=.slice A' q c'/\Rd w w.heap.size A' (Y.flatMap instV7))] (fun _=>False) (by kernel_rfl) (by kernel_rfl) ?_ ?_
   ·refine ⟨?_,?_,?_,?_,?_,?_,?_,?_,?_,?_,?_,?_,?_,trivial⟩
    ·intro f a wz _ _ _ _;exact st_su rfl rfl (run_lit0 rfl Tryz.underlying33 hi83) rfl ⟨_,rfl,Blk.new wz 83 #[]⟩ ((Chg.refl _ _).alloc _) (by simp)
    ·intro f a wz _ hout _ _;have x0:(a.tmps[0]?).getD undef=.slice (some ⟨xb,xo,none⟩) l.length c:=hout 0 (by rfl);exact st_is rfl rfl (by simp[execOp,go_sem,x0]) rfl (by simp)
    ·intro f a wz _ hout _ _;have x8:(a.tmps[8]?).getD undef=.slice (some ⟨kb,ko,none⟩) 2 kc:=hout 8 (by rfl);exact st_is rfl rfl (by simp[execOp,go_sem,x8]) rfl (by simp)
    ·intro f a wz hin _ _ hd;have x37:(a.tmps[37]?).getD undef=.slice (some ⟨kb,ko,none⟩) 2 kc:=(hin 37 (by rfl)).trans (hd 2 (by kernel_rfl));exact st_is rfl rfl (by simp[execOp,go_sem,Result.andThen,x37]) rfl (by simp)
    ·intro f a wz hin _ hC hd;have x38:(a.tmps[38]?).getD undef=.pointer (some ⟨kb,ko,none⟩):=(hin 38 (by rfl)).trans (hd 3 (by kernel_rfl));exact st_is rfl rfl (by simp[execOp,go_sem,Result.andThen,x38,HK0.out wz (Z4.out wz hC)]) rfl (by simp)
    ·intro f a wz hin _ _ hd;have x39:(a.tmps[39]?).getD undef=.int .i64 (k0:Int):=(hin 39 (by rfl)).trans (hd 4 (by kernel_rfl));exact st_is rfl rfl (by simp[execOp,go_sem,x39,hp0]) rfl (by simp)
    ·intro f a wz _ hout _ _;have x8:(a.tmps[8]?).getD undef=.slice (some ⟨kb,ko,none⟩) 2 kc:=hout 8 (by rfl);exact st_is rfl rfl (by simp[execOp,go_sem,x8]) rfl (by simp)
    ·intro f a wz hin _ _ hd;have x41:(a.tmps[41]?).getD undef=.slice (some ⟨kb,ko,none⟩) 2 kc:=(hin 41 (by rfl)).trans (hd 6 (by kernel_rfl));exact st_is rfl rfl (by simp[execOp,go_sem,Result.andThen,x41]) rfl (by simp)
    ·intro f a wz hin _ hC hd;have x42:(a.tmps[42]?).getD undef=.pointer (some ⟨kb,ko+1,none⟩):=(hin 42 (by rfl)).trans (hd 7 (by kernel_rfl));exact st_is rfl rfl (by simp[execOp,go_sem,Result.andThen,x42,HK1.out wz (Z4.out wz hC)]) rfl (by simp)
    ·intro f a wz hin _ _ hd;have x43:(a.tmps[43]?).getD undef=.int .i64 (k1:Int):=(hin 43 (by rfl)).trans (hd 8 (by kernel_rfl));exact st_is rfl rfl (by simp[execOp,go_sem,x43,hp1]) rfl (by simp)
    ·intro f a wz hin _ hC hd;have x36:(a.tmps[36]?).getD undef=.slice (some ⟨xb,xo,none⟩) l.length c:=(hin 36 (by rfl)).trans (hd 1 (by kernel_rfl));have x40:(a.tmps[40]?).getD undef=.int .i64 ((k0+1:Nat):Int):=(hin 40 (by rfl)).trans (hd 5 (by kernel_rfl));have x44:(a.tmps[44]?).getD undef=.int .i64 ((k1+1:Nat):Int):=(hin 44 (by rfl)).trans (hd 9 (by kernel_rfl));obtain ⟨A',hr',hR'⟩:=run_slLH (P:=Tryz.prog) (w:=wz) (t:=33) Tryz.underlying33 hi83 hz1 x36 x40 x44 hk01 hk1n hc;exact st_su rfl rfl (hr' _ rfl) rfl ⟨A',rfl,hYc.out _ _ _ (hR' wz _ _ _ (instCs_len _) (HR.out wz (Ct C4.out hC)))⟩ (Chg.refl _ _) (by simp)
    ·intro f a wz hin _ _ hd;obtain ⟨v35w,v35c,v35p⟩:=hd 0 (by kernel_rfl);have x35:=hin 35 (by rfl);obtain ⟨v45w,v45c,v45p⟩:=hd 10 (by kernel_rfl);have x45:=hin 45 (by rfl);obtain ⟨g,e35,hg⟩:=v35p;obtain ⟨A2,e45,hA2⟩:=v45p;obtain ⟨A',c',w',hr',h1,h2,h3,h4,h5,h6⟩:=run_freshT (P:=Tryz.prog) wz 33 33 83 i83 _ 7 56 Tryz.underlying33 hi83 hz0 hz1 hz2 rfl (by omega) g A2 q (c - (k0+1)) wz.heap.size (Y.flatMap instV7) (by rw[instCs_len,hYl.out]) (hA2.later v45c (fun _ h=>h.elim)) (instCs_one _) (by unfold maxLen;omega) (by omega) (hg.chg v35c (fun h=>h));exact st_su rfl rfl (run_app rfl (x35.trans e35) (by rw[hq.out];exact x45.trans e45) hr') rfl ⟨A',c',rfl,h1⟩ h2 (by simp)
    ·intro f a wz hin _ _ hd;obtain ⟨v46w,v46c,v46p⟩:=hd 11 (by kernel_rfl);have x46:=hin 46 (by rfl);obtain ⟨A2,c2,e46,hA2⟩:=v46p;exact st_su (v:=f 46) rfl rfl (by simp[execOp,go_sem,x46]) rfl ⟨A2,c2,e46,hA2.later v46c (fun _ h=>h.elim)⟩ (Chg.refl _ _) (by simp)
   ·intro f w5 hC5 hd;obtain ⟨v5w,v5c,yA,yc,e5,hYr⟩:spS (fun _=>False) _ 12 (f 5) w5:=hd 12 (show 12 < 13 by omega);have hYr5:=zI (hYr.later v5c (fun _ h=>h.elim));have hXr5:=zI (hXr.out.later hC5 (fun _ h=>h.elim));have C5:=zI (Ct C4.out hC5);clear hd hC5 v5c hYr;simp only[putAll,List.setIfInBounds_toArray,List.set_cons_succ,List.set_cons_zero,e5];clear e5;have hXl:Hid ((l.take (k0+1)).length=k0+1):=by show _=_;rw[List.length_take];omega
    have HT:=zI (timeless_any w5 xA xc (l.take (k0+1)) (by rw[hXl.out];omega) hXr5.out);rw[hXl.out] at HT;obtain ⟨tx,htx⟩:∃ tx,tx=tlB (l.take (k0+1)):=⟨_,rfl⟩;rw[<-htx] at HT;replace htx:=zI htx;have HY:=zI (fun (w':World) (h:Chg (fun _=>False) w5 w')=>by
     have:=timeless_any w' yA yc Y (by rw[hYl.out];omega) (hYr5.out.later h (fun _ h=>h.elim));rw[hYl.out] at this;exact this)
    obtain ⟨ty,hty⟩:∃ ty,ty=tlB Y:=⟨_,rfl⟩;rw[<-hty] at HY;replace hty:=zI hty;have hPX:Hid (ptsX (.two a0 u v) l=l.take (k0+1)):=by show l.take (u.endOf+1)=_;rw[hk0.out]
    have hPY:Hid (ptsY (.two a0 u v) l=Y):=by show (l.drop (u.endOf+1)).take (v.endOf - u.endOf)=_;rw[hY.out,hk0.out,hq.out,hk1.out,show v.endOf+1 - (k0+1)=v.endOf - k0 by omega,hk0.out]
    have hPO:Hid (ptsOk (.two a0 u v) l=(tx && ty)):=by show (tlB (ptsX (.two a0 u v) l) && tlB (ptsY (.two a0 u v) l))=_;rw[hPX.out,hPY.out,htx.out,hty.out]
    go_wp2_with fail
    go_at_call 38
    refine HT.out.mono ?_;rintro e' w6 ⟨rfl,hC6⟩;have C56:=zI hC6;clear hC6 HT;cases tx with
    | false=>
     go_wp2
     exact bodyPost_ret (results_tmp3 rfl _ _ _) rfl ⟨⟨xA,xc,yA,yc,by rw[hPX.out,hPY.out,hPO.out,hXl.out,hYl.out];rfl,by rw[hPX.out];exact hXr5.out.later C56.out (fun _ h=>h.elim),by rw[hPY.out];exact hYr5.out.later C56.out (fun _ h=>h.elim)⟩,Ct C5.out C56.out⟩
    | true=>
     go_wp2_with fail
     go_at_call 38
     refine (HY.out w6 C56.out).mono ?_;rintro e' w7 ⟨rfl,hC7⟩;have C57:=zI (Ct C56.out hC7);clear hC7 HY;go_wp2
     exact bodyPost_ret (results_tmp3 rfl _ _ _) rfl ⟨⟨xA,xc,yA,yc,by rw[hPX.out,hPY.out,hPO.out,hXl.out,hYl.out];rfl,by rw[hPX.out];exact hXr5.out.later C57.out (fun _ h=>h.elim),by rw[hPY.out];exact hYr5.out.later C57.out (fun _ h=>h.elim)⟩,Ct C5.out C57.out⟩
end
end Go.Proofs.YthohgagkjnbkbaaGreat
