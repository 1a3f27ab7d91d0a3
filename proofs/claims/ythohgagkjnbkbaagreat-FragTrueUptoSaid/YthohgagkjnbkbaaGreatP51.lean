/- FragTrue, part 51: FrPh. Each theorem says what a function does, or a plain fact, under its own premises alone. -/
import Derived.Test.YthohgagkjnbkbaaGreatP39
import Derived.Test.YthohgagkjnbkbaaGreatP49
import Derived.Test.YthohgagkjnbkbaaGreatP50
set_option maxRecDepth 100000
set_option maxHeartbeats 16000000
namespace Go.Proofs.YthohgagkjnbkbaaGreat
section
open Go.RowKit
theorem form_run {L:List Nm.Inst} {T:Tr.T} (h:Tr.WF (sg (shp L)) T 0 L.length) (hl:L.length<=64):Tr.check (sg (shp L)) L.length=0/\Tr.run (sg (shp L)) L.length=some [T]:=by
 have hb:Tr.beg (sg (shp L)) 1 L.length=0:=by have:=h.beg1;simpa using this
 have h0:=h.lt;refine ⟨Tr.check_zero.2 ⟨h0,hl,hb⟩,?_⟩;obtain ⟨t,ht⟩:=(Tr.form_iff _).1 hb;rw[ht,(wf_one (Tr.form_wf ht) h).1]
theorem eg_congr {R R':List RowI} (h:R.map (·.l)=R'.map (·.l)) (v:List Bool):egL R v=egL R' v:=
 congrFun (congrFun (congrFun (valA_congr h) (fun _=>24)) (fun _=>v)) (.one 0 (.leaf 0))
theorem eu_congr {R R':List RowI} (h:R.map (·.l)=R'.map (·.l)) (u v:List Bool):euL R u v=euL R' u v:=
 congrFun (congrFun (congrFun (valA_congr h) (fun _=>26)) (fun i=>if i=0 then u else v)) (.two 0 (.leaf 0) (.leaf 1))
theorem canE_len (es:List RowE):(canE es).length=es.length:=by simp[canE]
theorem lf_true (m:MC) (cs:List Int) (ns:List NC) (es:List RowE) (h:es.length=ns.length):lfL m cs ns (opI 1)=ttL (canE es):=by
 have h1:∀ n,atB m cs n (opI 1)=true:=fun n=>by
  have:cpsB (opI 1).op=false:=by decide
  unfold atB;rw[if_neg (by rw[this];simp)];unfold plainB;rw[if_pos (show (opI 1).op=1 from rfl)]
 unfold lfL ttL upTo;rw[canE_len,h];apply List.ext_getElem
 ·simp
 ·intro i h2 h3;simp[h1]
theorem lab_form {m:MC} {cs:List Int} {g:GrC} {L:List Nm.Inst} {v:List Bool} (hg:g.es.length=g.ns.length) (h:FormV (canE g.es) (lfL m cs g.ns) L v) (hl:L.length<=64):v.length=g.ns.length/\∃ T,Tr.check (sg (shp L)) L.length=0/\Tr.run (sg (shp L)) L.length=some [T]/\labL m cs g L T=v:=by
 obtain ⟨T,hT,hv⟩:=h;obtain ⟨h1,h2⟩:=form_run hT hl;refine ⟨?_,T,h1,h2,hv⟩;rw[<-hv,vl_len (fun x=>by rw[lfL_len,canE_len,hg]) hT (Nat.le_refl _),canE_len,hg]
theorem inside_canE {es:List RowE} (h:∀ r ∈ es,∀ x ∈ r.l,0<=x.2.2/\x.2.2 < es.length):Inside (canE es):=by
 intro i k hk;unfold rowL canE at hk;rw[List.getElem?_map] at hk;cases hr:es[i]? with
 | none=>rw[hr] at hk;simp at hk
 | some r=>
  rw[hr] at hk;simp only[Option.map_some] at hk;obtain ⟨x,hx,rfl⟩:=List.mem_map.1 (show k ∈ r.l.map (·.2.2) from hk);have:=h r (List.mem_of_getElem? hr) x hx;rw[canE_len];exact this
theorem md_of {w:World} {m:MC} {X:MX} (h:CkOk m X) (p:XP w m X):Md w m X:=⟨h.xok p,p.xo.mo.ev,h.wr,h.wrN,h.ev,wr_sn h.wr h.wrN⟩
theorem made_false (n:Nat):(madeCells #[Value.bool false] n).toList=boolsV (List.replicate n false):=by
 simp[madeCells,boolsV,Nat.mod_one,List.map_const']
theorem run_falses {P:Program} (w:World) (t e:TypeId) (ht:P.underlying t=some (.slice e)) (hinfo:(P.info? e).map (fun i=>(i.zero,i.size,i.bytes))=some (some (.bool false),1,1)) (n:Nat) (hn:n<=100000) {a:Act} {p q:Nat} (hp:(a.tmps[p]?).getD undef=.int .i64 n) (hq:(a.tmps[q]?).getD undef=.int .i64 n):
  ∃ w',(∀ o:Oper,o.op=.makeSlice t (.tmp p) (.tmp q)->(execOp a.eval o).run P w=.ok (.value (.slice (some ⟨w.heap.size,0,none⟩) n n)) w')/\Rd w' w'.heap.size (some ⟨w.heap.size,0,none⟩) (boolsV (List.replicate n false))/\Chg (fun _=>False) w w':=by
 have hr:=run_make_row' (P:=P) t e (.bool false) 1 ht hinfo rfl .i64 .i64 n (by omega) (by omega) w;refine ⟨_,fun o ho=>?_,?_,(Chg.refl _ w).alloc (.cells (madeCells #[.bool false] n) e)⟩
 ·have hp':a.eval (.tmp p)=.int .i64 n:=by rw[<-hp];simp[Act.eval]
  have hq':a.eval (.tmp q)=.int .i64 n:=by rw[<-hq];simp[Act.eval]
  unfold execOp;simp only[ho,hp',hq',Sem.run_bind,Sem.run_pure,Result.andThen_ok,hr]
 ·intro _;refine ⟨_,rfl,by simp,fun j u hu=>?_⟩;rw[add_row,Nat.zero_add,(Blk.new w e (madeCells #[.bool false] n)).cell];rw[<-made_false] at hu;simpa using hu
def BfR (n:Nat) (v:Value) (w:World):Prop:=∃ A c,v=.slice A n c/\Rd w w.heap.size A (boolsV (List.replicate n false))
theorem getD_rep (n i:Nat):(List.replicate n false).getD i false=false:=by rw[List.getD_eq_getElem?_getD,List.getElem?_replicate];split<;>rfl
theorem law_any (w:World) (m:MC) (X:MX) (A:Option Addr) (c:Nat) (l:List Nm.Inst) (hX:XP w m X) (hl:l.length<=4000000) (hc:l.length<=c) (hr:Rd w w.heap.size A (l.flatMap instV7)) (hop:∀ x ∈ l,inR x.op):Calls Tryz.prog 3 #[.agg (mA m),.slice A l.length c] w fun e w'=>e=.returned (.bool true)/\Chg (fun _=>False) w w':=by
 obtain ⟨i1,hi1,z10,z11,z12⟩:=info_3 int_info;obtain ⟨i2,hi2,z20,z21,z22⟩:=slice_info 52 sl52;have hb:=Blk.new w 32 (mA m);have C0:Hid (Chg (fun _=>False) w (w.alloc (.cells (mA m) 32))):=(Chg.refl _ w).alloc _;obtain ⟨w1,hw1⟩:∃ w1,w1=w.alloc (.cells (mA m) 32):=⟨_,rfl⟩;rw[<-hw1] at hb C0;have HX:=zI (fun (w':World) (h:Chg (fun _=>False) w1 w')=>(hX.later C0.out).later h);have HP:=zI (fun (w':World) (h:Chg (fun _=>False) w1 w')=>(hr.later C0.out (fun _ h=>h.elim)).later h (fun _ h=>h.elim));have HM:=zI (fun (w':World) (h:Chg (fun _=>False) w1 w')=>mcells (hb.chg h (fun h=>h)));have HOf:=zI (of_any w1 A c l hl hc (HP.out w1 (Chg.refl _ _)) hop);clear hb hX hr hop;unfold mA at hw1 |-;go_enter Tryz.func3,Tryz.ntmps3;go_wp2_with fail
 rw[<-hw1];clear hw1;go_at_call 4
 refine HOf.out.mono ?_;rintro e w2 ⟨⟨f,ok,rfl,hfO,hok,-⟩,hC2⟩;have C2:=zI hC2;obtain ⟨fz,hfz⟩:∃ fz,fz=w2.heap.size:=⟨_,rfl⟩;have BF:Hid (Blk (w2.alloc (.cells (fgA f) 35)) fz 35 (fgA f)):=by rw[hfz];exact Blk.new w2 35 _
 have C23:Hid (Chg (fun _=>False) w2 (w2.alloc (.cells (fgA f) 35))):=(Chg.refl _ _).alloc _;have C3:=zI (Ct C2.out C23.out);have hfO3:=zI (hfO.later C23.out);replace hok:=zI hok;obtain ⟨w3,hw3⟩:∃ w3,w3=w2.alloc (.cells (fgA f) 35):=⟨_,rfl⟩;rw[<-hw3] at BF C23 C3 hfO3;unfold fgA at hw3 |-;clear hC2 hfO HOf C23;cases ok with
 | false=>
  rw[hw3] at C3;go_wp2_with fail
  go_at_call 7
  refine (awake_any _).mono ?_;rintro e w9 ⟨rfl,hC9⟩;have C9:=zI (Ct C3.out hC9);clear hC9;go_wp2
  go_ret;exact ⟨rfl,Ct C0.out C9.out⟩
 | true=>
  by_cases hl64:64 < l.length
  ·have d1:decide (64 < l.length)=true:=by rw[dT];exact hl64
   have d2:decide ((64:Int) < (l.length:Int))=true:=by rw[dT];omega
   rw[hw3] at C3;go_wp2_with fail
   go_at_call 7
   refine (awake_any _).mono ?_;rintro e w9 ⟨rfl,hC9⟩;have C9:=zI (Ct C3.out hC9);clear hC9;go_wp2
   go_ret;exact ⟨rfl,Ct C0.out C9.out⟩
  ·have d1:decide (64 < l.length)=false:=by rw[dF];exact hl64
   have d2:decide ((64:Int) < (l.length:Int))=false:=by rw[dF];omega
   have HGt:=zI (great_any w3 m s0 ((HX.out w3 C3.out).xo.mo.good (s0_ok w3).1));unfold mA at HGt;obtain ⟨m0,m1,m2,m3,m4,m5,m6,m7,m8,m9⟩:=HM.out w3 C3.out;rw[hw3] at m0 m1 m2 m3 m4 m5 m6 m7 m8 m9;have hlb:l.length<=64:=by omega
   clear hl64;go_wp2_with fail
   rw[<-hw3,<-hfz];clear hw3 hfz m0 m1 m2 m3 m4 m5 m6 m7 m8 m9 d1 d2;go_at_call 5
   refine HGt.out.mono ?_;rintro e w4 ⟨hGr,hC4⟩;have C4:=zI (Ct C3.out hC4);have C34:=zI hC4;obtain ⟨gb,rfl⟩:∃ gb,e=.returned (.bool gb):=by rcases hGr with h | h;exact ⟨_,h⟩;exact ⟨_,h.1⟩
   clear hGr hC4 HGt;cases gb with
   | true=>
    go_wp2_with fail
    go_at_call 7
    refine (awake_any _).mono ?_;rintro e w9 ⟨rfl,hC9⟩;have C9:=zI (Ct C4.out hC9);clear hC9;go_wp2
    go_ret;exact ⟨rfl,Ct C0.out C9.out⟩
   | false=>
    have HCk:=zI (checkM_any w4 m X (HX.out w4 C4.out));unfold mA at HCk;obtain ⟨m0,m1,m2,m3,m4,m5,m6,m7,m8,m9⟩:=HM.out w4 C4.out;go_wp2_with fail
    clear m0 m1 m2 m3 m4 m5 m6 m7 m8 m9;go_at_call 6
    refine HCk.out.mono ?_;rintro e w5 ⟨⟨cb,rfl,hcb⟩,hC5⟩;have C5:=zI (Ct C4.out hC5);have C45:=zI hC5;replace hcb:=zI hcb;clear hC5 HCk;cases cb with
    | false=>
     go_wp2_with fail
     go_at_call 7
     refine (awake_any _).mono ?_;rintro e w9 ⟨rfl,hC9⟩;have C9:=zI (Ct C5.out hC9);clear hC9;go_wp2
     go_ret;exact ⟨rfl,Ct C0.out C9.out⟩
    | true=>
     have HK:Hid (CkOk m X):=by first | exact hcb.out rfl | exact hcb.out trivial
     have HCo:=zI (consts_any w5 m X A c l (HK.out.xok (HX.out w5 C5.out)) (by omega) (HP.out w5 C5.out));unfold mA at HCo;obtain ⟨m0,m1,m2,m3,m4,m5,m6,m7,m8,m9⟩:=HM.out w5 C5.out;clear hcb;go_wp2_with fail
     clear m0 m1 m2 m3 m4 m5 m6 m7 m8 m9;go_at_call 8
     refine HCo.out.mono ?_;rintro e w6 ⟨v6,rfl,D,dc,q,rfl,-,hQ,hC6⟩;have C6:=zI (Ct C5.out hC6);have C46:=zI (Ct C45.out hC6);have HQ:=zI (fun (w':World) (h:Chg (fun _=>False) w6 w')=>hQ.later h (fun _ h=>h.elim));clear hC6 hQ HCo;by_cases hq6:6 < q.length
     ·have d1:decide (6 < q.length)=true:=by rw[dT];exact hq6
      have d2:decide ((6:Int) < (q.length:Int))=true:=by rw[dT];omega
      go_wp2_with fail
      go_at_call 7
      refine (awake_any _).mono ?_;rintro e w9 ⟨rfl,hC9⟩;have C9:=zI (Ct C6.out hC9);clear hC9;go_wp2
      go_ret;exact ⟨rfl,Ct C0.out C9.out⟩
     ·have d1:decide (6 < q.length)=false:=by rw[dF];exact hq6
      have d2:decide ((6:Int) < (q.length:Int))=false:=by rw[dF];omega
      have hqb:q.length<=6:=by omega
      have HEx:=zI (explore_any w6 m X D dc q (md_of HK.out (HX.out w6 C6.out)) HK.out.nA (by have h1:=(HX.out w6 C6.out).iniN;have h2:=HK.out.nI;have h3:=HK.out.nA;omega) (HQ.out w6 (Chg.refl _ _)) hqb);unfold mA at HEx;obtain ⟨m0,m1,m2,m3,m4,m5,m6,m7,m8,m9⟩:=HM.out w6 C6.out;clear hq6;go_wp2_with fail
      clear m0 m1 m2 m3 m4 m5 m6 m7 m8 m9 d1 d2;go_at_call 9
      refine HEx.out.mono ?_;rintro e w7 ⟨⟨v7,fine,rfl,g,rfl,hg⟩,hC7⟩;obtain ⟨gz,hgz⟩:∃ gz,gz=w7.heap.size:=⟨_,rfl⟩;have BG:Hid (Blk (w7.alloc (.cells (grA g) 44)) gz 44 (grA g)):=by rw[hgz];exact Blk.new w7 44 _
      have C78:Hid (Chg (fun _=>False) w7 (w7.alloc (.cells (grA g) 44))):=(Chg.refl _ _).alloc _;have C8:=zI (Ct (Ct C6.out hC7) C78.out);have C68:=zI (Ct hC7 C78.out);replace hg:=zI hg;obtain ⟨w8,hw8⟩:∃ w8,w8=w7.alloc (.cells (grA g) 44):=⟨_,rfl⟩;rw[<-hw8] at BG C78 C8 C68;unfold grA at hw8 |-;clear hC7 HEx;cases fine with
      | false=>
       rw[hw8] at C8;go_wp2_with fail
       go_at_call 7
       refine (awake_any _).mono ?_;rintro e w9 ⟨rfl,hC9⟩;have C9:=zI (Ct C8.out hC9);clear hC9;go_wp2
       go_ret;exact ⟨rfl,Ct C0.out C9.out⟩
      | true=>
       obtain ⟨hG0,hne,hn0,hed⟩:GOK w7 g/\g.es.length=g.ns.length/\0 < g.ns.length/\(∀ r ∈ g.es,∀ x ∈ r.l,0<=x.2.2/\x.2.2 < g.ns.length):=by first | exact hg.out rfl | exact hg.out trivial
       obtain ⟨t,s,hk⟩:∃ t s,OfK l f t s:=by first | exact hok.out rfl | exact hok.out trivial
       obtain ⟨N,hN⟩:∃ N,N=g.ns.length:=⟨_,rfl⟩;have heN:g.es.length=N:=by rw[hne,hN]
       have hN1:N<=1000:=by rw[hN];exact hG0.few.1
       have hN0:0 < N:=by rw[hN];exact hn0
       have hin:Inside (canE g.es):=inside_canE (by rw[hne];exact hed);have hRl:(canE g.es).length=N:=by rw[canE_len,heN]
       have hlv:∀ x,(lfL m (srt q) g.ns x).length=(canE g.es).length:=fun x=>by rw[lfL_len,hRl,hN]
       obtain ⟨vT,vO,vI,hsix⟩:=six_all hin hlv (lf_true m (srt q) g.ns g.es hne) hk.wf.lt hk;have hLlen:(vl (canE g.es) (lfL m (srt q) g.ns) l t).length=N:=by rw[vl_len hlv hk.wf (Nat.le_refl _),hRl]
       have hfr:=form_run hk.wf hk.len;have HLab:=zI (fun (w':World) (h:Chg (fun _=>False) w8 w') (B:Option Addr) (b:Nat) (L:List Nm.Inst) (T:Tr.T) (hB:Rd w' w'.heap.size B (L.flatMap instV7)) (hL:L.length<=64) (h1:Tr.check (sg (shp L)) L.length=0) (h2:Tr.run (sg (shp L)) L.length=some [T])=>label_any w' m D dc q g B b L T (HX.out w' (Ct C8.out h)).xo.mo (by have:=HK.out.nU;omega) (HQ.out w' (Ct C68.out h)) (by omega) ((hG0.later C78.out).later h) hne hn0 hB hL h1 h2);have HL8:=zI (HLab.out w8 (Chg.refl _ _) A c l t (HP.out w8 C8.out) hlb hfr.1 hfr.2);obtain ⟨LL,hLL⟩:∃ L,L=labL m (srt q) g l t:=⟨_,rfl⟩;have hLLn:LL.length=N:=by rw[hLL];exact hLlen
       have hval:Hid (∀ i,i < N->LL.getD i false=!((f.path && (euL (canE g.es) vT vO).getD i false) || (f.lasso && (egL (canE g.es) vI).getD i false))):=fun i hi=>by rw[hLL];exact hsix.val i (by rw[hRl];exact hi)
       rw[<-hLL,hLLn] at HL8;have HG:=zI (fun (w':World) (h:Chg (fun _=>False) w8 w')=>(hG0.later C78.out).later h);have HGc:=zI (fun (w':World) (h:Chg (fun _=>False) w8 w')=>(show w'.cell? ⟨gz,0,none⟩=some (.slice g.nA N g.nC)/\w'.cell? ⟨gz,1,none⟩=some (.slice g.eA N g.eC) from by
        have hb:=BG.out.chg h (fun h=>h);rw[hb.cell,hb.cell,hN];exact ⟨rfl,by rw[<-hne];rfl⟩))
       have HFc:=zI (fun (w':World) (h:Chg (fun _=>False) w3 w')=>(⟨((BF.out.chg h (fun h=>h)).cell 0).trans rfl,((BF.out.chg h (fun h=>h)).cell 1).trans rfl,((BF.out.chg h (fun h=>h)).cell 2).trans rfl,((BF.out.chg h (fun h=>h)).cell 3).trans rfl,((BF.out.chg h (fun h=>h)).cell 4).trans rfl⟩:w'.cell? ⟨fz,0,none⟩=some (.bool f.path)/\w'.cell? ⟨fz,1,none⟩=some (.bool f.lasso)/\w'.cell? ⟨fz,2,none⟩=some (.slice f.aT f.th.length f.cT)/\w'.cell? ⟨fz,3,none⟩=some (.slice f.aO f.to.length f.cO)/\w'.cell? ⟨fz,4,none⟩=some (.slice f.aI f.inn.length f.cI)));have C38:Hid (Chg (fun _=>False) w3 w8):=Ct (Ct (Ct (Chg.refl _ w3) C34.out) C46.out) C68.out;unfold mA grA at HL8 HLab;rw[heN,<-hN] at hw8 HL8 |-;rw[heN,<-hN] at HLab;obtain ⟨m0,m1,m2,m3,m4,m5,m6,m7,m8,m9⟩:=HM.out w8 C8.out;rw[hw8] at m0 m1 m2 m3 m4 m5 m6 m7 m8 m9;have hfew:=hk.few;replace hLL:=zI hLL;replace hsix:=zI hsix;replace hN:=zI hN;replace heN:=zI heN;replace hLLn:=zI hLLn;replace hfew:=zI hfew;clear hg hok hG0 hne hn0 hed hk hin hRl hlv hLlen hfr HP;go_wp2_with fail
       rw[<-hw8,<-hgz];clear hw8 hgz m0 m1 m2 m3 m4 m5 m6 m7 m8 m9;go_at_call 10
       refine HL8.out.mono ?_;rintro e w9 ⟨LB,lb,rfl,-,hLR,hC9⟩;have C89:=zI hC9;have HLR:=zI (fun (w':World) (h:Chg (fun _=>False) w9 w')=>hLR.later h (fun _ h=>h.elim));clear hLR hC9 HL8;have g0:=(HGc.out w9 C89.out).1;have g1:=(HGc.out w9 C89.out).2;go_wp2_with fail
       clear g0 g1;go_loopw [13,12,14,15] (fun x v _ _ wr=>∃ (j:Nat) (R:List Rw),j<=N/\x=.int .i64 j/\Hid (Nxt g.es j R)/\Hid (Rws w9 wr 52 3 v R)) (fun x _ _ _ _=>N - (intOf x).toNat)
       case atStart=>exact ⟨0,[],Nat.zero_le _,rfl,Nxt.start _,Rws.start _ _ _⟩
       case round=>
        rename World=>wo
        obtain ⟨j,R,hj,rfl,hX,hR⟩:=hrel;have Cr:=zI (Ct C89.out hR.out.chg);obtain ⟨g0,g1⟩:=HGc.out wo Cr.out;by_cases hlt:j < N
        ·obtain ⟨r,hr⟩:∃ r,g.es[j]?=some r:=⟨_,gG (by rw[heN.out];exact hlt)⟩;have hre:=(HG.out wo Cr.out).es r (List.mem_of_getElem? hr);have hrl:=hre.2;replace hre:=zI hre.1;obtain ⟨eb,eo,heA,_,hec⟩:=row_at (f:=rowEC) (C:=1) (fun _=>rfl) (by omega) (HG.out wo Cr.out).eR hr;have e0:=hec 0 _ rfl;simp only[Nat.mul_one,Nat.add_zero] at e0;rw[heA] at g1;have htl:Hid ((toL r).length=r.l.length):=by show _=_;simp[toL]
         have hX2:=zI (fun (B:Option Addr) (b:Nat)=>hX.out.more (A:=B) (c:=b) hr);clear hec hr;replace heA:=zI heA;go_wp2_with fail
         go_loopw [15,14] (fun y t wk=>∃ k:Nat,k<=r.l.length/\y=.int .i64 k/\Hid (wk.ownsRow wo.heap.size 3 1 t k (intsV ((toL r).take k)))/\Hid (Chg (fun _=>False) wo wk)) (fun y _ _=>r.l.length - (intOf y).toNat)
         case atStart=>exact ⟨0,Nat.zero_le _,rfl,zI (World.ownsRow_nil _ _ _ _),Chg.refl _ _⟩
         case round=>
          obtain ⟨k,hk,rfl,hO,hC⟩:=hrel;replace g0:=keep_cell hC.out (fun _ h=>h) g0;replace g1:=keep_cell hC.out (fun _ h=>h) g1;replace e0:=keep_cell hC.out (fun _ h=>h) e0;by_cases hkl:k < r.l.length
          ·obtain ⟨x,hx⟩:∃ x,r.l[k]?=some x:=⟨_,gG hkl⟩;obtain ⟨rb,ro,hrA,_,hrc⟩:=row_at (f:=edC) (C:=3) (fun _=>rfl) (by omega) (hre.out.later hC.out (fun _ h=>h.elim)) hx;have c2:=hrc 2 _ rfl;have hs:=zI (toL_take hx);rw[hrA] at e0;clear hrc hx hrA;go_wp2_with (at_builtin;refine wpList_append_own _ rfl (.tmp 88) (.tmp 98) 52 rfl wo.heap.size 3 i1 _ 1 8 Tryz.underlying52 hi1 z10 z11 z12 rfl (by omega) u14 k (intsV ((toL r).take k)) rfl (by exact hO.out.alloc _) ⟨wr.heap.size,0,none⟩ 1 1 [.int .i64 x.2.2] rfl rfl (by exact all_new (Blk.new wr 3 #[.int .i64 x.2.2])) (by intro u hu;simp at hu;subst hu;rfl) (by unfold maxLen;omega) (by omega) (by have:=hC.out.size;simp;omega) ?_;intro v' w5 hown3 hg3 hat3;have HO3:=zI hown3;have HC3:=zI (app1 hO.out hC.out _ hg3);clear hown3 hg3 hat3)
           go_roundw
           case rel=>exact ⟨k+1,by omega,by go_num,zI (by rw[hs.out,intsV_append];exact HO3.out),HC3⟩
           case measure=>(simp[intOf]<;>omega)
          ·obtain rfl:k=r.l.length:=by omega
           obtain ⟨B,b,rfl,hqc,hcm⟩:=own_slice hO.out;have hB:Hid (RwOK wr 3 ⟨B,(toL r).length,b,intsV (toL r)⟩):=by
            have h:=RwOK.own hO.out;rw[List.take_of_length_le (by rw[htl.out];exact Nat.le_refl _)] at h;show RwOK _ _ _;rw[htl.out];exact h
           have hRk:=zI (hR.out.later hC.out);have hOw:Hid (wr.ownsRow w9.heap.size 52 1 u12 j (R.flatMap rwC)):=by show World.ownsRow _ _ _ _ _ _ _;have:=hRk.out.own;rwa [hX.out.1] at this
           have hX3:=zI (hX2.out B b);clear hqc hcm hX2;go_wp2_with (at_builtin;refine wpList_append_own _ rfl (.tmp 100) (.tmp 102) 51 rfl w9.heap.size 52 i2 _ 1 24 Tryz.underlying51 hi2 z20 z21 z22 rfl (by omega) u12 j (R.flatMap rwC) rfl (by exact hOw.out.alloc _) ⟨wr.heap.size,0,none⟩ 1 1 [.slice B r.l.length b] rfl rfl (by exact all_new (Blk.new wr 52 #[.slice B r.l.length b])) (by intro u hu;simp at hu;subst hu;rfl) (by unfold maxLen;omega) (by omega) (by have:=hRk.out.chg.size;simp;omega) ?_;intro v' w5 hown3 hg3 hat3;have HR3:=zI (Rws.more hRk.out (by decide) hB.out (by rw[hX.out.1];show World.ownsRow _ _ _ _ _ _ (_++[Value.slice B (toL r).length b]);rw[htl.out];exact hown3) hg3);clear hown3 hg3 hat3)
           go_roundw
           case rel=>exact ⟨j+1,_,by omega,by go_num,hX3,HR3⟩
           case measure=>(simp[intOf]<;>omega)
        ·obtain rfl:N=j:=by omega
         have hRo:=hR.out.own;rw[hX.out.1] at hRo;obtain ⟨B,b,rfl,hqc,hcm⟩:=own_slice hRo;have hNx:Hid (NxOK wo B (rowsI g.es R)):=rowsI_ok (c:=b) (by rw[heN.out];exact hX.out) (by rw[heN.out];exact hR.out) (by rw[heN.out];exact hN1) (fun r hr=>((HG.out wo Cr.out).es r hr).2);have hRL:Hid ((canE g.es).map (·.l)=(rowsI g.es R).map (·.l)):=by show _=_;rw[canE_l];exact (rowsI_l (by rw[heN.out];exact hX.out)).symm
         have hRn:Hid ((rowsI g.es R).length=N):=by show _=_;have:=congrArg List.length hRL.out;rw[List.length_map,List.length_map,canE_len,heN.out] at this;exact this.symm
         have hRc:=zI hR.out.chg;clear hqc hcm hRo hX hR;go_wp2_with fail
         clear g0 g1;have hgne:Hid (g.es.length=g.ns.length):=by show _=_;rw[heN.out,hN.out]
         obtain ⟨RI,hRI⟩:∃ RI,RI=rowsI g.es R:=⟨_,rfl⟩;rw[<-hRI] at hNx hRL hRn;obtain ⟨pv,hpv⟩:∃ pv,pv=f.path:=⟨_,rfl⟩;obtain ⟨sv,hsv⟩:∃ sv,sv=f.lasso:=⟨_,rfl⟩;rw[<-hpv,<-hsv] at hval;have HL1:=zI (fun (w':World) (h:Chg (fun _=>False) wo w')=>HLab.out w' (Ct Cr.out h));have HM1:=zI (fun (w':World) (h:Chg (fun _=>False) wo w')=>HM.out w' (Ct (Ct C8.out Cr.out) h));have HF1:=zI (fun (w':World) (h:Chg (fun _=>False) wo w')=>by have:=HFc.out w' (Ct (Ct C38.out Cr.out) h);rw[<-hpv,<-hsv] at this;exact this);have HG1:=zI (fun (w':World) (h:Chg (fun _=>False) wo w')=>HGc.out w' (Ct Cr.out h));have HLL1:=zI (fun (w':World) (h:Chg (fun _=>False) wo w')=>HLR.out w' (Ct hRc.out h));have HO1:=zI (fun (w':World) (h:Chg (fun _=>False) wo w')=>hfO3.out.later (Ct (Ct C38.out Cr.out) h));have HN1:=zI (fun (w':World) (h:Chg (fun _=>False) wo w')=>hNx.out.later h);have CE1:=zI (fun (w':World) (h:Chg (fun _=>False) wo w')=>(Ct (Ct (Ct C0.out C8.out) Cr.out) h:Chg (fun _=>False) w w'));have hthl:Hid (f.th.length<=64/\f.to.length<=64/\f.inn.length<=64):=by
          have:=hfew.out;unfold fewB at this;simp only[Bool.and_eq_true,decide_eq_true_eq] at this;exact ⟨this.1,this.2.1,this.2.2⟩
         replace hpv:=zI hpv;replace hsv:=zI hsv;replace hRI:=zI hRI;clear hRc hNx HLab HGc HFc HLR;refine region_sp (by kernel_rfl) [some 104,some 105,some 106,some 107,some 108,some 109,some 16,some 17] [104,105,106,107,108,109,16,17] [.is (.slice B N b),.is (.int .i64 (N:Int)),.su (fun v w=>BfR N v w),.is (.slice B N b),.is (.int .i64 (N:Int)),.su (fun v w=>BfR N v w),.su (fun v w=>BfR N v w),.su (fun v w=>BfR N v w)] (fun _=>False) (by kernel_rfl) (by kernel_rfl) ?_ ?_
         ·refine ⟨?_,?_,?_,?_,?_,?_,?_,?_,trivial⟩
          ·intro f' a wz _ hout _ _;have x12:(a.tmps[12]?).getD undef=.slice B N b:=hout 12 (by rfl);exact st_is rfl rfl (by simp[execOp,go_sem,x12]) rfl (by simp)
          ·intro f' a wz hin _ _ hd;have x104:(a.tmps[104]?).getD undef=.slice B N b:=(hin 104 (by rfl)).trans (hd 0 (by kernel_rfl));exact st_is rfl rfl (by simp[go_sem,Result.andThen,x104]) rfl (by simp)
          ·intro f' a wz hin _ _ hd;have x105:(a.tmps[105]?).getD undef=.int .i64 (N:Int):=(hin 105 (by rfl)).trans (hd 1 (by kernel_rfl));obtain ⟨w',hr',h1,h2⟩:=run_falses (P:=Tryz.prog) wz 47 4 Tryz.underlying47 bool_info N (by omega) x105 x105;exact st_su rfl rfl (hr' _ rfl) rfl ⟨_,_,rfl,h1⟩ h2 (by simp)
          ·intro f' a wz _ hout _ _;have x12:(a.tmps[12]?).getD undef=.slice B N b:=hout 12 (by rfl);exact st_is rfl rfl (by simp[execOp,go_sem,x12]) rfl (by simp)
          ·intro f' a wz hin _ _ hd;have x107:(a.tmps[107]?).getD undef=.slice B N b:=(hin 107 (by rfl)).trans (hd 3 (by kernel_rfl));exact st_is rfl rfl (by simp[go_sem,Result.andThen,x107]) rfl (by simp)
          ·intro f' a wz hin _ _ hd;have x108:(a.tmps[108]?).getD undef=.int .i64 (N:Int):=(hin 108 (by rfl)).trans (hd 4 (by kernel_rfl));obtain ⟨w',hr',h1,h2⟩:=run_falses (P:=Tryz.prog) wz 47 4 Tryz.underlying47 bool_info N (by omega) x108 x108;exact st_su rfl rfl (hr' _ rfl) rfl ⟨_,_,rfl,h1⟩ h2 (by simp)
          ·intro f' a wz hin _ _ hd;obtain ⟨v106w,v106c,v106p⟩:=hd 2 (by kernel_rfl);have x106:=hin 106 (by rfl);obtain ⟨A2,c2,e6,h6⟩:=v106p;exact st_su (v:=f' 106) rfl rfl (by simp[execOp,go_sem,x106]) rfl ⟨A2,c2,e6,h6.later v106c (fun _ h=>h.elim)⟩ (Chg.refl _ _) (by simp)
          ·intro f' a wz hin _ _ hd;obtain ⟨v109w,v109c,v109p⟩:=hd 5 (by kernel_rfl);have x109:=hin 109 (by rfl);obtain ⟨A2,c2,e6,h6⟩:=v109p;exact st_su (v:=f' 109) rfl rfl (by simp[execOp,go_sem,x109]) rfl ⟨A2,c2,e6,h6.later v109c (fun _ h=>h.elim)⟩ (Chg.refl _ _) (by simp)
         ·intro f' w10 hC10 hd;obtain ⟨v16w,v16c,p0A,p0c,e16,p0R⟩:spS (fun _=>False) _ 6 (f' 16) w10:=hd 6 (show 6 < 8 by omega);obtain ⟨v17w,v17c,s0A,s0c,e17,s0R⟩:spS (fun _=>False) _ 7 (f' 17) w10:=hd 7 (show 7 < 8 by omega);replace p0R:=zI (p0R.later v16c (fun _ h=>h.elim));replace s0R:=zI (s0R.later v17c (fun _ h=>h.elim));have C10:=zI hC10;clear hd hC10 v16c v17c;simp only[putAll,List.setIfInBounds_toArray,List.set_cons_succ,List.set_cons_zero,e16,e17];clear e16 e17;cases pv with
          | false=>
           cases sv with
           | false=>
            obtain ⟨PL,hPL⟩:∃ L,L=(List.replicate N false):=⟨_,rfl⟩;obtain ⟨SL,hSL⟩:∃ L,L=(List.replicate N false):=⟨_,rfl⟩;have hv2:Hid (∀ i,i < N->LL.getD i false=!(PL.getD i false || SL.getD i false)):=fun i hi=>by
             have:=hval.out i hi;rw[this,hPL,hSL];first | rw[getD_rep] | skip
             first | rw[getD_rep] | skip
             simp
            have HRL:=zI (fun (w':World) (h:Chg (fun _=>False) w10 w')=>HLL1.out w' (Ct C10.out h));have HRP:Hid (∀ w',Chg (fun _=>False) w10 w'->Rd w' w'.heap.size p0A (boolsV PL)):=fun w' h=>by rw[hPL];exact p0R.out.later h (fun _ h=>h.elim)
            have HRS:Hid (∀ w',Chg (fun _=>False) w10 w'->Rd w' w'.heap.size s0A (boolsV SL)):=fun w' h=>by rw[hSL];exact s0R.out.later h (fun _ h=>h.elim)
            have hPn:Hid (PL.length=N):=by rw[hPL];exact zI List.length_replicate
            have hSn:Hid (SL.length=N):=by rw[hSL];exact zI List.length_replicate
            have Cfin:=zI (CE1.out w10 C10.out);clear hPL hSL;obtain ⟨m0,m1,m2,m3,m4,m5,m6,m7,m8,m9⟩:=HM1.out w10 C10.out;obtain ⟨g0,g1⟩:=HG1.out w10 C10.out;obtain ⟨f0,f1,f2,f3,f4⟩:=HF1.out w10 C10.out;go_wp2_with fail
            clear m0 m1 m2 m3 m4 m5 m6 m7 m8 m9 g0 g1 f0 f1 f2 f3 f4;go_loopw [24] (fun x wr=>∃ i:Nat,i<=N/\x=.int .i64 i/\Hid (Chg (fun _=>False) w10 wr)) (fun x _=>N - (intOf x).toNat)
            case atStart=>exact ⟨0,Nat.zero_le _,rfl,Chg.refl _ _⟩
            case round=>
             rename World=>wk
             obtain ⟨i,hi,rfl,CL⟩:=hrel;by_cases hlt:i < N
             ·obtain ⟨lx,hlx⟩:∃ x,LL[i]?=some x:=⟨_,gG (by rw[hLLn.out];exact hlt)⟩;obtain ⟨px,hpx⟩:∃ x,PL[i]?=some x:=⟨_,gG (by rw[hPn.out];exact hlt)⟩;obtain ⟨sx,hsx⟩:∃ x,SL[i]?=some x:=⟨_,gG (by rw[hSn.out];exact hlt)⟩;have hvx:=hv2.out i hlt;rw[List.getD_eq_getElem?_getD,List.getD_eq_getElem?_getD,List.getD_eq_getElem?_getD,hlx,hpx,hsx] at hvx;obtain ⟨b1,o1,hA1,-,c1⟩:=bool_at (HRL.out wk CL.out) hlx;obtain ⟨b2,o2,hA2,-,c2⟩:=bool_at (HRP.out wk CL.out) hpx;obtain ⟨b3,o3,hA3,-,c3⟩:=bool_at (HRS.out wk CL.out) hsx;subst hA1;subst hA2;subst hA3;have K1:=fun n:KW wk=>kept_cell c1 n
              have K2:=fun n:KW wk=>kept_cell c2 n
              have K3:=fun n:KW wk=>kept_cell c3 n
              have hvx':lx=!(px || sx):=hvx;clear hvx hlx hpx hsx c1 c2 c3;cases lx<;>cases px<;>cases sx<;>first | exact absurd hvx' (by decide) | (
               clear hvx';go_wp2_with fail
               refine wp_region_kept wk (Chg.refl _ _) (by kernel_rfl) (by kernel_rfl) ?_;repeat (go_big_quiet_step (fail))
               refine wpQuiet_nil ?_;rintro w4' ⟨n4,rfl⟩;have C7:=zI (Ct CL.out n4.h);obtain ⟨w7,hw7⟩:∃ w7,w7=n4.w:=⟨_,rfl⟩;rw[<-hw7] at C7 |-;clear hw7 K1 K2 K3;go_wp2_with fail
               go_roundw
               case rel=>exact ⟨i+1,by omega,by go_num,C7⟩
               case measure=>(simp[intOf]<;>omega))
             ·obtain rfl:i=N:=by omega
              go_wp2_with fail
              go_at_call 7
              refine (awake_any _).mono ?_;rintro e w9' ⟨rfl,hC9⟩;have C9:=zI (Ct (Ct Cfin.out CL.out) hC9);clear hC9;go_wp2
              go_ret;exact ⟨rfl,C9.out⟩
           | true=>
            obtain ⟨lin,liT,li1,li2,li3⟩:=lab_form hgne.out (hsix.out.inn hsv.out.symm) hthl.out.2.2;rw[<-hN.out] at lin;have HLb:=zI (HL1.out w10 C10.out f.aI f.cI f.inn liT (HO1.out w10 C10.out).inn hthl.out.2.2 li1 li2);rw[li3,lin] at HLb;replace lin:=zI lin;clear li1 li2 li3;obtain ⟨m0,m1,m2,m3,m4,m5,m6,m7,m8,m9⟩:=HM1.out w10 C10.out;obtain ⟨g0,g1⟩:=HG1.out w10 C10.out;obtain ⟨f0,f1,f2,f3,f4⟩:=HF1.out w10 C10.out;go_wp2_with fail
            clear m0 m1 m2 m3 m4 m5 m6 m7 m8 m9 g0 g1 f0 f1 f2 f3 f4;go_at_call 10
            refine HLb.out.mono ?_;rintro e wli ⟨liA,lic,rfl,-,liR,hCn⟩;have Cli:=zI (Ct C10.out hCn);replace liR:=zI liR;replace p0R:=zI (p0R.out.later hCn (fun _ h=>h.elim));replace s0R:=zI (s0R.out.later hCn (fun _ h=>h.elim));clear hCn HLb;have HEu:=zI (eg_any wli RI vI B liA b lic (HN1.out wli Cli.out) liR.out);rw[hRn.out,lin.out] at HEu;go_wp2_with fail
            go_at_call 12
            refine HEu.out.mono ?_;rintro e wls ⟨lsA,lsc,rfl,-,-,lsR,hCn,-⟩;have lsn:(egL RI vI).length=N:=by rw[egL_len,hRn.out]
            rw[lsn];replace lsn:=zI lsn;have Cls:=zI (Ct Cli.out hCn);replace lsR:=zI lsR;replace p0R:=zI (p0R.out.later hCn (fun _ h=>h.elim));replace s0R:=zI (s0R.out.later hCn (fun _ h=>h.elim));replace liR:=zI (liR.out.later hCn (fun _ h=>h.elim));clear hCn HEu;obtain ⟨PL,hPL⟩:∃ L,L=(List.replicate N false):=⟨_,rfl⟩;obtain ⟨SL,hSL⟩:∃ L,L=egL RI vI:=⟨_,rfl⟩;have hv2:Hid (∀ i,i < N->LL.getD i false=!(PL.getD i false || SL.getD i false)):=fun i hi=>by
             have:=hval.out i hi;rw[this,hPL,hSL];first | rw[getD_rep] | skip
             rw[<-eg_congr hRL.out];simp
            have HRL:=zI (fun (w':World) (h:Chg (fun _=>False) wls w')=>HLL1.out w' (Ct Cls.out h));have HRP:Hid (∀ w',Chg (fun _=>False) wls w'->Rd w' w'.heap.size p0A (boolsV PL)):=fun w' h=>by rw[hPL];exact p0R.out.later h (fun _ h=>h.elim)
            have HRS:Hid (∀ w',Chg (fun _=>False) wls w'->Rd w' w'.heap.size lsA (boolsV SL)):=fun w' h=>by rw[hSL];exact lsR.out.later h (fun _ h=>h.elim)
            have hPn:Hid (PL.length=N):=by rw[hPL];exact zI List.length_replicate
            have hSn:Hid (SL.length=N):=by rw[hSL];exact lsn
            have Cfin:=zI (CE1.out wls Cls.out);clear hPL hSL;go_wp2_with fail
            go_loopw [24] (fun x wr=>∃ i:Nat,i<=N/\x=.int .i64 i/\Hid (Chg (fun _=>False) wls wr)) (fun x _=>N - (intOf x).toNat)
            case atStart=>exact ⟨0,Nat.zero_le _,rfl,Chg.refl _ _⟩
            case round=>
             rename World=>wk
             obtain ⟨i,hi,rfl,CL⟩:=hrel;by_cases hlt:i < N
             ·obtain ⟨lx,hlx⟩:∃ x,LL[i]?=some x:=⟨_,gG (by rw[hLLn.out];exact hlt)⟩;obtain ⟨px,hpx⟩:∃ x,PL[i]?=some x:=⟨_,gG (by rw[hPn.out];exact hlt)⟩;obtain ⟨sx,hsx⟩:∃ x,SL[i]?=some x:=⟨_,gG (by rw[hSn.out];exact hlt)⟩;have hvx:=hv2.out i hlt;rw[List.getD_eq_getElem?_getD,List.getD_eq_getElem?_getD,List.getD_eq_getElem?_getD,hlx,hpx,hsx] at hvx;obtain ⟨b1,o1,hA1,-,c1⟩:=bool_at (HRL.out wk CL.out) hlx;obtain ⟨b2,o2,hA2,-,c2⟩:=bool_at (HRP.out wk CL.out) hpx;obtain ⟨b3,o3,hA3,-,c3⟩:=bool_at (HRS.out wk CL.out) hsx;subst hA1;subst hA2;subst hA3;have K1:=fun n:KW wk=>kept_cell c1 n
              have K2:=fun n:KW wk=>kept_cell c2 n
              have K3:=fun n:KW wk=>kept_cell c3 n
              have hvx':lx=!(px || sx):=hvx;clear hvx hlx hpx hsx c1 c2 c3;cases lx<;>cases px<;>cases sx<;>first | exact absurd hvx' (by decide) | (
               clear hvx';go_wp2_with fail
               refine wp_region_kept wk (Chg.refl _ _) (by kernel_rfl) (by kernel_rfl) ?_;repeat (go_big_quiet_step (fail))
               refine wpQuiet_nil ?_;rintro w4' ⟨n4,rfl⟩;have C7:=zI (Ct CL.out n4.h);obtain ⟨w7,hw7⟩:∃ w7,w7=n4.w:=⟨_,rfl⟩;rw[<-hw7] at C7 |-;clear hw7 K1 K2 K3;go_wp2_with fail
               go_roundw
               case rel=>exact ⟨i+1,by omega,by go_num,C7⟩
               case measure=>(simp[intOf]<;>omega))
             ·obtain rfl:i=N:=by omega
              go_wp2_with fail
              go_at_call 7
              refine (awake_any _).mono ?_;rintro e w9' ⟨rfl,hC9⟩;have C9:=zI (Ct (Ct Cfin.out CL.out) hC9);clear hC9;go_wp2
              go_ret;exact ⟨rfl,C9.out⟩
          | true=>
           obtain ⟨ltn,ltT,lt1,lt2,lt3⟩:=lab_form hgne.out (hsix.out.th hpv.out.symm) hthl.out.1;rw[<-hN.out] at ltn;have HLb:=zI (HL1.out w10 C10.out f.aT f.cT f.th ltT (HO1.out w10 C10.out).th hthl.out.1 lt1 lt2);rw[lt3,ltn] at HLb;replace ltn:=zI ltn;clear lt1 lt2 lt3;obtain ⟨m0,m1,m2,m3,m4,m5,m6,m7,m8,m9⟩:=HM1.out w10 C10.out;obtain ⟨g0,g1⟩:=HG1.out w10 C10.out;obtain ⟨f0,f1,f2,f3,f4⟩:=HF1.out w10 C10.out;go_wp2_with fail
           clear m0 m1 m2 m3 m4 m5 m6 m7 m8 m9 g0 g1 f0 f1 f2 f3 f4;go_at_call 10
           refine HLb.out.mono ?_;rintro e wlt ⟨ltA,ltc,rfl,-,ltR,hCn⟩;have Clt:=zI (Ct C10.out hCn);replace ltR:=zI ltR;replace p0R:=zI (p0R.out.later hCn (fun _ h=>h.elim));replace s0R:=zI (s0R.out.later hCn (fun _ h=>h.elim));clear hCn HLb;obtain ⟨lon,loT,lo1,lo2,lo3⟩:=lab_form hgne.out (hsix.out.to hpv.out.symm) hthl.out.2.1;rw[<-hN.out] at lon;have HLb:=zI (HL1.out wlt Clt.out f.aO f.cO f.to loT (HO1.out wlt Clt.out).to hthl.out.2.1 lo1 lo2);rw[lo3,lon] at HLb;replace lon:=zI lon;clear lo1 lo2 lo3;obtain ⟨m0,m1,m2,m3,m4,m5,m6,m7,m8,m9⟩:=HM1.out wlt Clt.out;obtain ⟨g0,g1⟩:=HG1.out wlt Clt.out;obtain ⟨f0,f1,f2,f3,f4⟩:=HF1.out wlt Clt.out;go_wp2_with fail
           clear m0 m1 m2 m3 m4 m5 m6 m7 m8 m9 g0 g1 f0 f1 f2 f3 f4;go_at_call 10
           refine HLb.out.mono ?_;rintro e wlo ⟨loA,loc,rfl,-,loR,hCn⟩;have Clo:=zI (Ct Clt.out hCn);replace loR:=zI loR;replace p0R:=zI (p0R.out.later hCn (fun _ h=>h.elim));replace s0R:=zI (s0R.out.later hCn (fun _ h=>h.elim));replace ltR:=zI (ltR.out.later hCn (fun _ h=>h.elim));clear hCn HLb;have HEu:=zI (eu_any wlo RI vT vO B ltA loA b ltc loc (HN1.out wlo Clo.out) ltR.out loR.out);rw[hRn.out,ltn.out,lon.out] at HEu;go_wp2_with fail
           go_at_call 11
           refine HEu.out.mono ?_;rintro e wpe ⟨peA,pec,rfl,-,-,peR,hCn,-⟩;have pen:(euL RI vT vO).length=N:=by rw[euL_len,hRn.out]
           rw[pen];replace pen:=zI pen;have Cpe:=zI (Ct Clo.out hCn);replace peR:=zI peR;replace p0R:=zI (p0R.out.later hCn (fun _ h=>h.elim));replace s0R:=zI (s0R.out.later hCn (fun _ h=>h.elim));replace ltR:=zI (ltR.out.later hCn (fun _ h=>h.elim));replace loR:=zI (loR.out.later hCn (fun _ h=>h.elim));clear hCn HEu;cases sv with
           | false=>
            obtain ⟨PL,hPL⟩:∃ L,L=euL RI vT vO:=⟨_,rfl⟩;obtain ⟨SL,hSL⟩:∃ L,L=(List.replicate N false):=⟨_,rfl⟩;have hv2:Hid (∀ i,i < N->LL.getD i false=!(PL.getD i false || SL.getD i false)):=fun i hi=>by
             have:=hval.out i hi;rw[this,hPL,hSL];rw[<-eu_congr hRL.out];first | rw[getD_rep] | skip
             simp
            have HRL:=zI (fun (w':World) (h:Chg (fun _=>False) wpe w')=>HLL1.out w' (Ct Cpe.out h));have HRP:Hid (∀ w',Chg (fun _=>False) wpe w'->Rd w' w'.heap.size peA (boolsV PL)):=fun w' h=>by rw[hPL];exact peR.out.later h (fun _ h=>h.elim)
            have HRS:Hid (∀ w',Chg (fun _=>False) wpe w'->Rd w' w'.heap.size s0A (boolsV SL)):=fun w' h=>by rw[hSL];exact s0R.out.later h (fun _ h=>h.elim)
            have hPn:Hid (PL.length=N):=by rw[hPL];exact pen
            have hSn:Hid (SL.length=N):=by rw[hSL];exact zI List.length_replicate
            have Cfin:=zI (CE1.out wpe Cpe.out);clear hPL hSL;obtain ⟨m0,m1,m2,m3,m4,m5,m6,m7,m8,m9⟩:=HM1.out wpe Cpe.out;obtain ⟨g0,g1⟩:=HG1.out wpe Cpe.out;obtain ⟨f0,f1,f2,f3,f4⟩:=HF1.out wpe Cpe.out;go_wp2_with fail
            clear m0 m1 m2 m3 m4 m5 m6 m7 m8 m9 g0 g1 f0 f1 f2 f3 f4;go_loopw [24] (fun x wr=>∃ i:Nat,i<=N/\x=.int .i64 i/\Hid (Chg (fun _=>False) wpe wr)) (fun x _=>N - (intOf x).toNat)
            case atStart=>exact ⟨0,Nat.zero_le _,rfl,Chg.refl _ _⟩
            case round=>
             rename World=>wk
             obtain ⟨i,hi,rfl,CL⟩:=hrel;by_cases hlt:i < N
             ·obtain ⟨lx,hlx⟩:∃ x,LL[i]?=some x:=⟨_,gG (by rw[hLLn.out];exact hlt)⟩;obtain ⟨px,hpx⟩:∃ x,PL[i]?=some x:=⟨_,gG (by rw[hPn.out];exact hlt)⟩;obtain ⟨sx,hsx⟩:∃ x,SL[i]?=some x:=⟨_,gG (by rw[hSn.out];exact hlt)⟩;have hvx:=hv2.out i hlt;rw[List.getD_eq_getElem?_getD,List.getD_eq_getElem?_getD,List.getD_eq_getElem?_getD,hlx,hpx,hsx] at hvx;obtain ⟨b1,o1,hA1,-,c1⟩:=bool_at (HRL.out wk CL.out) hlx;obtain ⟨b2,o2,hA2,-,c2⟩:=bool_at (HRP.out wk CL.out) hpx;obtain ⟨b3,o3,hA3,-,c3⟩:=bool_at (HRS.out wk CL.out) hsx;subst hA1;subst hA2;subst hA3;have K1:=fun n:KW wk=>kept_cell c1 n
              have K2:=fun n:KW wk=>kept_cell c2 n
              have K3:=fun n:KW wk=>kept_cell c3 n
              have hvx':lx=!(px || sx):=hvx;clear hvx hlx hpx hsx c1 c2 c3;cases lx<;>cases px<;>cases sx<;>first | exact absurd hvx' (by decide) | (
               clear hvx';go_wp2_with fail
               refine wp_region_kept wk (Chg.refl _ _) (by kernel_rfl) (by kernel_rfl) ?_;repeat (go_big_quiet_step (fail))
               refine wpQuiet_nil ?_;rintro w4' ⟨n4,rfl⟩;have C7:=zI (Ct CL.out n4.h);obtain ⟨w7,hw7⟩:∃ w7,w7=n4.w:=⟨_,rfl⟩;rw[<-hw7] at C7 |-;clear hw7 K1 K2 K3;go_wp2_with fail
               go_roundw
               case rel=>exact ⟨i+1,by omega,by go_num,C7⟩
               case measure=>(simp[intOf]<;>omega))
             ·obtain rfl:i=N:=by omega
              go_wp2_with fail
              go_at_call 7
              refine (awake_any _).mono ?_;rintro e w9' ⟨rfl,hC9⟩;have C9:=zI (Ct (Ct Cfin.out CL.out) hC9);clear hC9;go_wp2
              go_ret;exact ⟨rfl,C9.out⟩
           | true=>
            obtain ⟨lin,liT,li1,li2,li3⟩:=lab_form hgne.out (hsix.out.inn hsv.out.symm) hthl.out.2.2;rw[<-hN.out] at lin;have HLb:=zI (HL1.out wpe Cpe.out f.aI f.cI f.inn liT (HO1.out wpe Cpe.out).inn hthl.out.2.2 li1 li2);rw[li3,lin] at HLb;replace lin:=zI lin;clear li1 li2 li3;obtain ⟨m0,m1,m2,m3,m4,m5,m6,m7,m8,m9⟩:=HM1.out wpe Cpe.out;obtain ⟨g0,g1⟩:=HG1.out wpe Cpe.out;obtain ⟨f0,f1,f2,f3,f4⟩:=HF1.out wpe Cpe.out;go_wp2_with fail
            clear m0 m1 m2 m3 m4 m5 m6 m7 m8 m9 g0 g1 f0 f1 f2 f3 f4;go_at_call 10
            refine HLb.out.mono ?_;rintro e wli ⟨liA,lic,rfl,-,liR,hCn⟩;have Cli:=zI (Ct Cpe.out hCn);replace liR:=zI liR;replace p0R:=zI (p0R.out.later hCn (fun _ h=>h.elim));replace s0R:=zI (s0R.out.later hCn (fun _ h=>h.elim));replace ltR:=zI (ltR.out.later hCn (fun _ h=>h.elim));replace loR:=zI (loR.out.later hCn (fun _ h=>h.elim));replace peR:=zI (peR.out.later hCn (fun _ h=>h.elim));clear hCn HLb;have HEu:=zI (eg_any wli RI vI B liA b lic (HN1.out wli Cli.out) liR.out);rw[hRn.out,lin.out] at HEu;go_wp2_with fail
            go_at_call 12
            refine HEu.out.mono ?_;rintro e wls ⟨lsA,lsc,rfl,-,-,lsR,hCn,-⟩;have lsn:(egL RI vI).length=N:=by rw[egL_len,hRn.out]
            rw[lsn];replace lsn:=zI lsn;have Cls:=zI (Ct Cli.out hCn);replace lsR:=zI lsR;replace p0R:=zI (p0R.out.later hCn (fun _ h=>h.elim));replace s0R:=zI (s0R.out.later hCn (fun _ h=>h.elim));replace ltR:=zI (ltR.out.later hCn (fun _ h=>h.elim));replace loR:=zI (loR.out.later hCn (fun _ h=>h.elim));replace peR:=zI (peR.out.later hCn (fun _ h=>h.elim));replace liR:=zI (liR.out.later hCn (fun _ h=>h.elim));clear hCn HEu;obtain ⟨PL,hPL⟩:∃ L,L=euL RI vT vO:=⟨_,rfl⟩;obtain ⟨SL,hSL⟩:∃ L,L=egL RI vI:=⟨_,rfl⟩;have hv2:Hid (∀ i,i < N->LL.getD i false=!(PL.getD i false || SL.getD i false)):=fun i hi=>by
             have:=hval.out i hi;rw[this,hPL,hSL];rw[<-eu_congr hRL.out];rw[<-eg_congr hRL.out];simp
            have HRL:=zI (fun (w':World) (h:Chg (fun _=>False) wls w')=>HLL1.out w' (Ct Cls.out h));have HRP:Hid (∀ w',Chg (fun _=>False) wls w'->Rd w' w'.heap.size peA (boolsV PL)):=fun w' h=>by rw[hPL];exact peR.out.later h (fun _ h=>h.elim)
            have HRS:Hid (∀ w',Chg (fun _=>False) wls w'->Rd w' w'.heap.size lsA (boolsV SL)):=fun w' h=>by rw[hSL];exact lsR.out.later h (fun _ h=>h.elim)
            have hPn:Hid (PL.length=N):=by rw[hPL];exact pen
            have hSn:Hid (SL.length=N):=by rw[hSL];exact lsn
            have Cfin:=zI (CE1.out wls Cls.out);clear hPL hSL;go_wp2_with fail
            go_loopw [24] (fun x wr=>∃ i:Nat,i<=N/\x=.int .i64 i/\Hid (Chg (fun _=>False) wls wr)) (fun x _=>N - (intOf x).toNat)
            case atStart=>exact ⟨0,Nat.zero_le _,rfl,Chg.refl _ _⟩
            case round=>
             rename World=>wk
             obtain ⟨i,hi,rfl,CL⟩:=hrel;by_cases hlt:i < N
             ·obtain ⟨lx,hlx⟩:∃ x,LL[i]?=some x:=⟨_,gG (by rw[hLLn.out];exact hlt)⟩;obtain ⟨px,hpx⟩:∃ x,PL[i]?=some x:=⟨_,gG (by rw[hPn.out];exact hlt)⟩;obtain ⟨sx,hsx⟩:∃ x,SL[i]?=some x:=⟨_,gG (by rw[hSn.out];exact hlt)⟩;have hvx:=hv2.out i hlt;rw[List.getD_eq_getElem?_getD,List.getD_eq_getElem?_getD,List.getD_eq_getElem?_getD,hlx,hpx,hsx] at hvx;obtain ⟨b1,o1,hA1,-,c1⟩:=bool_at (HRL.out wk CL.out) hlx;obtain ⟨b2,o2,hA2,-,c2⟩:=bool_at (HRP.out wk CL.out) hpx;obtain ⟨b3,o3,hA3,-,c3⟩:=bool_at (HRS.out wk CL.out) hsx;subst hA1;subst hA2;subst hA3;have K1:=fun n:KW wk=>kept_cell c1 n
              have K2:=fun n:KW wk=>kept_cell c2 n
              have K3:=fun n:KW wk=>kept_cell c3 n
              have hvx':lx=!(px || sx):=hvx;clear hvx hlx hpx hsx c1 c2 c3;cases lx<;>cases px<;>cases sx<;>first | exact absurd hvx' (by decide) | (
               clear hvx';go_wp2_with fail
               refine wp_region_kept wk (Chg.refl _ _) (by kernel_rfl) (by kernel_rfl) ?_;repeat (go_big_quiet_step (fail))
               refine wpQuiet_nil ?_;rintro w4' ⟨n4,rfl⟩;have C7:=zI (Ct CL.out n4.h);obtain ⟨w7,hw7⟩:∃ w7,w7=n4.w:=⟨_,rfl⟩;rw[<-hw7] at C7 |-;clear hw7 K1 K2 K3;go_wp2_with fail
               go_roundw
               case rel=>exact ⟨i+1,by omega,by go_num,C7⟩
               case measure=>(simp[intOf]<;>omega))
             ·obtain rfl:i=N:=by omega
              go_wp2_with fail
              go_at_call 7
              refine (awake_any _).mono ?_;rintro e w9' ⟨rfl,hC9⟩;have C9:=zI (Ct (Ct Cfin.out CL.out) hC9);clear hC9;go_wp2
              go_ret;exact ⟨rfl,C9.out⟩
end
end Go.Proofs.YthohgagkjnbkbaaGreat
