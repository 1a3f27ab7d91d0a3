/- FragTrue, part 38: FrPe FrLaw FrMv FrPf FrSix. Each theorem says what a function does, or a plain fact, under its own premises alone. -/
import Derived.Test.YthohgagkjnbkbaaGreatP37
set_option maxRecDepth 100000
set_option maxHeartbeats 16000000
namespace Go.Proofs.YthohgagkjnbkbaaGreat
section
open Go.RowKit
structure OfK (l:List Nm.Inst) (f:FgC) (t s:Tr.T):Prop where
 len:l.length<=64
 wf:Tr.WF (sg (shp l)) t 0 l.length
 sel:((formV l).2=0/\s=t)\/((formV l).2 ≠ 0/\lastO l 1=15/\t=.one (l.length - 1) s)
 ok:ptsOk s l=true
 row:rowR (formV l).1 (formV l).2 (ptsX s l) (ptsY s l)=some (fgI f)
 few:fewB f=true
def OfBad (l:List Nm.Inst):Prop:=ckT l ≠ 0\/∃ t s,Tr.run (sg (shp l)) l.length=some [t]/\(((formV l).2=0/\s=t)\/((formV l).2 ≠ 0/\lastO l 1=15/\t=.one (l.length - 1) s))/\(ptsOk s l=false\/rowR (formV l).1 (formV l).2 (ptsX s l) (ptsY s l)=none\/∃ f:FgC,rowR (formV l).1 (formV l).2 (ptsX s l) (ptsY s l)=some (fgI f)/\fewB f=false)
def OfP (l:List Nm.Inst) (e:Ending) (w':World):Prop:=∃ (f:FgC) (ok:Bool),e=.returned (.tuple #[.agg (fgA f),.bool ok])/\FgOK w' f/\(ok=true->∃ t s,OfK l f t s)/\(ok=false->OfBad l)
theorem sg_shp {l:List Nm.Inst} {i:Nat} {x:Nm.Inst} (h:l[i]?=some x):sg (shp l) i=x.op:=by
 unfold sg shp;rw[List.getElem?_map,h];rfl
theorem formV_yes {l:List Nm.Inst} (h:(formV l).2 ≠ 0):lastO l 1=15/\1 < l.length:=by
 unfold formV at h;by_cases h1:lastO l 1=15/\1 < l.length
 ·exact h1
 ·rw[if_neg h1] at h;exact absurd rfl h
theorem sel_tree {l:List Nm.Inst} {t:Tr.T} (hn:0 < l.length) (ht:Tr.WF (sg (shp l)) t 0 l.length):∃ s e,e < l.length/\e+1=l.length - (if (formV l).2=0 then 0 else 1)/\Tr.WF (sg (shp l)) s 0 (e+1)/\(((formV l).2=0/\s=t)\/((formV l).2 ≠ 0/\lastO l 1=15/\t=.one (l.length - 1) s)):=by
 by_cases h0:(formV l).2=0
 ·refine ⟨t,l.length - 1,by omega,by rw[if_pos h0];omega,?_,.inl ⟨h0,rfl⟩⟩;rw[show l.length - 1+1=l.length by omega];exact ht
 ·obtain ⟨h15,hl⟩:=formV_yes h0;have hop:sg (shp l) (l.length - 1)=15:=by
   rw[sg_shp (x:=l[l.length - 1]'(by omega)) (gG (by omega)),<-h15];exact (lastO_at (gG (by omega))).symm
  cases t with
  | leaf a=>simp only[Tr.WF] at ht;omega
  | one a x=>
   simp only[Tr.WF] at ht;obtain ⟨h1,h2,h3⟩:=ht;have hlt:=h3.lt;refine ⟨x,l.length - 2,by omega,by rw[if_neg h0];omega,?_,.inr ⟨h0,h15,by rw[h1];rfl⟩⟩;rw[show l.length - 2+1=a by omega];exact h3
  | two a x y=>
   simp only[Tr.WF] at ht;obtain ⟨h1,h2,h3⟩:=ht;rw[show a=l.length - 1 by omega,hop] at h2;exact absurd h2 (by decide)
theorem inR_op {l:List Nm.Inst} (h:∀ x ∈ l,inR x.op) (k:Nat):inR (lastO l k):=by
 unfold lastO;rw[List.getD_eq_getElem?_getD];cases hx:l[l.length - k]? with
 | none=>show inR 0;unfold inR;omega
 | some x=>exact h x (List.mem_of_getElem? hx)
theorem inR_form {l:List Nm.Inst} (h:∀ x ∈ l,inR x.op):inR (formV l).1/\inR (formV l).2:=by
 unfold formV;split
 ·exact ⟨by show inR 15;unfold inR;omega,inR_op h 2⟩
 ·exact ⟨inR_op h 1,by show inR 0;unfold inR;omega⟩
theorem ins_ne {w:World} {g:Nat} {ty:TypeId} {cs:Array Value} {A:Option Addr} {l:List Nm.Inst} (hb:Blk w g ty cs) (hcs:∀ v ∈ cs.toList,∀ n,v ≠ .int .i64 n) (hr:Rd w w.heap.size A (l.flatMap instV7)):∀ ad,A=some ad->0 < (l.flatMap instV7).length->¬ ad.block=g:=by
 intro ad ha hl he;obtain ⟨b,o,hA,_,hc⟩:=hr.plain hl;rw[ha] at hA;injection hA with hA;subst hA;cases l with
 | nil=>simp at hl
 | cons x l=>
  have h0:=hc 0 (.int .i64 x.op) rfl;have he':b=g:=he;subst he';rw[hb.cell] at h0;have:=Array.mem_of_getElem? h0;exact hcs _ (Array.mem_toList_iff.2 this) _ rfl
theorem ptsX_len (s:Tr.T) (l:List Nm.Inst):(ptsX s l).length<=l.length:=by
 cases s with
 | leaf a=>simp[ptsX]
 | one a x=>simp only[ptsX,List.length_take];omega
 | two a x y=>simp only[ptsX,List.length_take];omega
theorem ptsY_len (s:Tr.T) (l:List Nm.Inst):(ptsY s l).length<=l.length:=by
 cases s with
 | leaf a=>simp[ptsY]
 | one a x=>simp[ptsY]
 | two a x y=>simp only[ptsY,List.length_take,List.length_drop];omega
theorem of_any (w:World) (A:Option Addr) (c:Nat) (l:List Nm.Inst) (hl:l.length<=4000000) (hc:l.length<=c) (hr:Rd w w.heap.size A (l.flatMap instV7)) (hop:∀ x ∈ l,inR x.op):Calls Tryz.prog 4 #[.slice A l.length c] w fun e w'=>OfP l e w'/\Chg (fun _=>False) w w':=by
 have hb:=Blk.new w 35 #[.bool false,.bool false,.slice none 0 0,.slice none 0 0,.slice none 0 0];have C1:Hid (Chg (fun _=>False) w (w.alloc (.cells #[.bool false,.bool false,.slice none 0 0,.slice none 0 0,.slice none 0 0] 35))):=(Chg.refl _ w).alloc _;have HR:=zI (fun (w':World) (h:Chg (fun _=>False) w w')=>hr.later h (fun _ h=>h.elim));have hI:=zI (items_any _ A c l (by omega) (HR.out _ C1.out));obtain ⟨w1,hw1⟩:∃ w1,w1=(w.alloc (.cells #[.bool false,.bool false,.slice none 0 0,.slice none 0 0,.slice none 0 0] 35)):=⟨_,rfl⟩;have hs1:w1.heap.size=w.heap.size+1:=by rw[hw1];simp
 rw[<-hw1] at C1 hI hb;have H2:=zI (fun (w':World) (h:Chg (fun _=>False) w1 w')=>hb.chg h (fun h=>h));have hFi:=zI (inR_form hop);clear hr hb hop;go_enter Tryz.func4,Tryz.ntmps4;go_wp2_with fail
 rw[<-hw1];clear hw1;go_at_call 14
 refine hI.out.mono ?_;rintro e w2 ⟨B,bc,rfl,hB,hC2⟩;have C2:=zI hC2;have HCk:=zI (check_any w2 B bc (l.map toItem) (by rw[List.length_map];unfold maxLen;omega) hB);rw[ckT_eq] at HCk;rw[List.length_map] at HCk |-;obtain ⟨k,hk⟩:∃ k,k=ckT l:=⟨_,rfl⟩;rw[<-hk] at HCk;replace hk:=zI hk;clear hB hC2 hI;go_wp2_with fail
 go_at_call 13
 refine HCk.out.mono ?_;rintro e w3 ⟨rfl,hC3⟩;have C3:=zI (Ct C2.out hC3);clear hC3 HCk;obtain ⟨b0,hb0⟩:∃ b0,(k !=0)=b0:=⟨_,rfl⟩;cases b0 with
 | true=>
  have hBd:Hid (OfBad l):=.inl (by rw[<-hk.out];simpa using hb0);have B9:=H2.out w3 C3.out;have r0:w3.cell? ⟨w.heap.size,0,none⟩=some (.bool false):=(B9.cell 0).trans rfl;have r1:w3.cell? ⟨w.heap.size,1,none⟩=some (.bool false):=(B9.cell 1).trans rfl;have r2:w3.cell? ⟨w.heap.size,2,none⟩=some (.slice none 0 0):=(B9.cell 2).trans rfl;have r3:w3.cell? ⟨w.heap.size,3,none⟩=some (.slice none 0 0):=(B9.cell 3).trans rfl;have r4:w3.cell? ⟨w.heap.size,4,none⟩=some (.slice none 0 0):=(B9.cell 4).trans rfl;have rf:=B9.frozen;have hend:=blk_st5 B9 (.bool false) (.bool false) (.slice none 0 0) (.slice none 0 0) (.slice none 0 0);have hE:=zI hend.1;have CE:=zI (Chg.trans (Ct C1.out C3.out) hend.2 (fun i hi e=>by omega));have CL:=zI hend.2;clear hend B9;go_wp2
  exact bodyPost_ret (results_c2 rfl _ _ _ _ _ _ _ _ rfl rfl hE.out Tryz.underlying35 rfl (by kernel_rfl)) rfl ⟨⟨⟨false,false,none,[],0,none,[],0,none,[],0⟩,false,rfl,⟨rd_nil _ _ _,rd_nil _ _ _,rd_nil _ _ _⟩,(fun h=>by cases h),fun _=>hBd.out⟩,CE.out⟩
 | false=>
  have hk0:k=0:=by simpa using hb0
  have hck:Hid (ckT l=0):=by show _=_;rw[<-hk.out,hk0]
  obtain ⟨hn0,hn64,hbg⟩:=Tr.check_zero.1 (show Tr.check (sg (shp l)) l.length=0 from hck.out);obtain ⟨t,htr⟩:=(Tr.form_iff _).1 hbg;have hwf:=Tr.form_wf htr;obtain ⟨s,e,hel,hee,hsw,hsel⟩:=sel_tree hn0 hwf;have HFo:=zI (form_any w3 A c l hn0 hl (HR.out w3 (Ct C1.out C3.out)));obtain ⟨fa,hfa⟩:∃ fa,fa=(formV l).1:=⟨_,rfl⟩;obtain ⟨fb,hfb⟩:∃ fb,fb=(formV l).2:=⟨_,rfl⟩;rw[<-hfa,<-hfb] at HFo hFi;have HPa:=zI (fun (w':World) (h:Chg (fun _=>False) w1 w')=>parts_any w' A c l fa fb s e hn64 hck.out hc (HR.out w' (Ct C1.out h)) hel (by rw[hfb];exact hee) hsw);replace hsel:=zI hsel;replace hwf:=zI hwf;replace hsw:=zI hsw;replace hfa:=zI hfa;replace hfb:=zI hfb;replace htr:=zI htr;clear hbg hee hk0 hk;go_wp2_with fail
  go_at_call 15
  refine HFo.out.mono ?_;rintro e' w4 ⟨rfl,hC4⟩;have C4:=zI (Ct C3.out hC4);obtain ⟨fz,hfz⟩:∃ fz,fz=w4.heap.size:=⟨_,rfl⟩;have BF:Hid (Blk (w4.alloc (.cells #[.int .i64 fa,.int .i64 fb] 62)) fz 62 #[.int .i64 fa,.int .i64 fb]):=by rw[hfz];exact Blk.new w4 62 _
  have C5:Hid (Chg (fun _=>False) w1 (w4.alloc (.cells #[.int .i64 fa,.int .i64 fb] 62))):=C4.out.alloc _;obtain ⟨w5,hw5⟩:∃ w5,w5=w4.alloc (.cells #[.int .i64 fa,.int .i64 fb] 62):=⟨_,rfl⟩;rw[<-hw5] at BF C5;have HFc:=zI (fun (w':World) (h:Chg (fun _=>False) w5 w')=>(⟨((BF.out.chg h (fun h=>h)).cell 0).trans rfl,((BF.out.chg h (fun h=>h)).cell 1).trans rfl⟩:w'.cell? ⟨fz,0,none⟩=some (.int .i64 fa)/\w'.cell? ⟨fz,1,none⟩=some (.int .i64 fb)));have HP5:=zI (HPa.out w5 C5.out);clear hC4 HFo HPa;go_wp2_with fail
  rw[<-hw5,<-hfz];clear hw5 hfz;go_at_call 16
  refine HP5.out.mono ?_;rintro e' w6 ⟨⟨xA,xc,yA,yc,rfl,hX,hY⟩,hC6⟩;have C56:=zI hC6;have C6:=zI (Ct C5.out hC6);have HRo:=zI (row_any w6 fa fb xA yA xc yc (ptsX s l) (ptsY s l) hFi.out.1 hFi.out.2 hX hY (by have:=ptsX_len s l;omega) (by have:=ptsY_len s l;omega));obtain ⟨po,hpo⟩:∃ po,po=ptsOk s l:=⟨_,rfl⟩;obtain ⟨Xl,hXl⟩:∃ X,X=ptsX s l:=⟨_,rfl⟩;obtain ⟨Yl,hYl⟩:∃ Y,Y=ptsY s l:=⟨_,rfl⟩;rw[<-hXl,<-hYl] at HRo |-;rw[<-hpo];replace hpo:=zI hpo;replace hXl:=zI hXl;replace hYl:=zI hYl;clear hX hY hC6 HP5;cases po with
  | false=>
   have hBd:Hid (OfBad l):=.inr ⟨t,s,htr.out,hsel.out,.inl hpo.out.symm⟩;have B9:=H2.out w6 C6.out;have r0:w6.cell? ⟨w.heap.size,0,none⟩=some (.bool false):=(B9.cell 0).trans rfl;have r1:w6.cell? ⟨w.heap.size,1,none⟩=some (.bool false):=(B9.cell 1).trans rfl;have r2:w6.cell? ⟨w.heap.size,2,none⟩=some (.slice none 0 0):=(B9.cell 2).trans rfl;have r3:w6.cell? ⟨w.heap.size,3,none⟩=some (.slice none 0 0):=(B9.cell 3).trans rfl;have r4:w6.cell? ⟨w.heap.size,4,none⟩=some (.slice none 0 0):=(B9.cell 4).trans rfl;have rf:=B9.frozen;have hend:=blk_st5 B9 (.bool false) (.bool false) (.slice none 0 0) (.slice none 0 0) (.slice none 0 0);have hE:=zI hend.1;have CE:=zI (Chg.trans (Ct C1.out C6.out) hend.2 (fun i hi e=>by omega));have CL:=zI hend.2;clear hend B9;go_wp2
   exact bodyPost_ret (results_c2 rfl _ _ _ _ _ _ _ _ rfl rfl hE.out Tryz.underlying35 rfl (by kernel_rfl)) rfl ⟨⟨⟨false,false,none,[],0,none,[],0,none,[],0⟩,false,rfl,⟨rd_nil _ _ _,rd_nil _ _ _,rd_nil _ _ _⟩,(fun h=>by cases h),fun _=>hBd.out⟩,CE.out⟩
  | true=>
   obtain ⟨q0,q1⟩:=HFc.out w6 C56.out;go_wp2_with fail
   clear q0 q1;go_at_call 17
   refine HRo.out.mono ?_;rintro e' w7 ⟨⟨f,ok,rfl,hfO,hfok,hfr⟩,hC7⟩;have C7:=zI (Ct C6.out hC7);have hfO':=zI hfO;replace hfr:=zI hfr;replace hfok:=zI hfok;obtain ⟨gz,hgz⟩:∃ gz,gz=w7.heap.size:=⟨_,rfl⟩;have BG:Hid (Blk (w7.alloc (.cells (fgA f) 35)) gz 35 (fgA f)):=by rw[hgz];exact Blk.new w7 35 _
   have C78:Hid (Chg (fun _=>False) w7 (w7.alloc (.cells (fgA f) 35))):=(Chg.refl _ _).alloc _;obtain ⟨w8,hw8⟩:∃ w8,w8=w7.alloc (.cells (fgA f) 35):=⟨_,rfl⟩;rw[<-hw8] at BG C78;have C8:=zI (Ct C7.out C78.out);have hfO8:=zI (hfO'.out.later C78.out);have HFw:=zI (few_any w8 f);unfold fgA at hw8 HFw |-;clear hC7 hfO HRo hfO';have hg8:gz < w8.heap.size:=BG.out.lt;have hg1:w1.heap.size<=gz:=by rw[hgz];exact C7.out.size
   have z0:w8.cell? ⟨gz,0,none⟩=some (.bool f.path):=(BG.out.cell 0).trans rfl;have z1:w8.cell? ⟨gz,1,none⟩=some (.bool f.lasso):=(BG.out.cell 1).trans rfl;have z2:w8.cell? ⟨gz,2,none⟩=some (.slice f.aT f.th.length f.cT):=(BG.out.cell 2).trans rfl;have z3:w8.cell? ⟨gz,3,none⟩=some (.slice f.aO f.to.length f.cO):=(BG.out.cell 3).trans rfl;have z4:w8.cell? ⟨gz,4,none⟩=some (.slice f.aI f.inn.length f.cI):=(BG.out.cell 4).trans rfl;cases ok with
   | false=>
    rw[hw8] at C8;clear z0 z1 z2 z3 z4;have hBd:Hid (OfBad l):=.inr ⟨t,s,htr.out,hsel.out,.inr (.inl (by rw[<-hfa.out,<-hfb.out,<-hXl.out,<-hYl.out];cases hrr:rowR fa fb Xl Yl with | none=>rfl | some r=>(have:=hfok.out;rw[hrr] at this;cases this)))⟩;have B9:=H2.out (w7.alloc (.cells #[.bool f.path,.bool f.lasso,.slice f.aT f.th.length f.cT,.slice f.aO f.to.length f.cO,.slice f.aI f.inn.length f.cI] 35)) C8.out;have r0:(w7.alloc (.cells #[.bool f.path,.bool f.lasso,.slice f.aT f.th.length f.cT,.slice f.aO f.to.length f.cO,.slice f.aI f.inn.length f.cI] 35)).cell? ⟨w.heap.size,0,none⟩=some (.bool false):=(B9.cell 0).trans rfl;have r1:(w7.alloc (.cells #[.bool f.path,.bool f.lasso,.slice f.aT f.th.length f.cT,.slice f.aO f.to.length f.cO,.slice f.aI f.inn.length f.cI] 35)).cell? ⟨w.heap.size,1,none⟩=some (.bool false):=(B9.cell 1).trans rfl;have r2:(w7.alloc (.cells #[.bool f.path,.bool f.lasso,.slice f.aT f.th.length f.cT,.slice f.aO f.to.length f.cO,.slice f.aI f.inn.length f.cI] 35)).cell? ⟨w.heap.size,2,none⟩=some (.slice none 0 0):=(B9.cell 2).trans rfl;have r3:(w7.alloc (.cells #[.bool f.path,.bool f.lasso,.slice f.aT f.th.length f.cT,.slice f.aO f.to.length f.cO,.slice f.aI f.inn.length f.cI] 35)).cell? ⟨w.heap.size,3,none⟩=some (.slice none 0 0):=(B9.cell 3).trans rfl;have r4:(w7.alloc (.cells #[.bool f.path,.bool f.lasso,.slice f.aT f.th.length f.cT,.slice f.aO f.to.length f.cO,.slice f.aI f.inn.length f.cI] 35)).cell? ⟨w.heap.size,4,none⟩=some (.slice none 0 0):=(B9.cell 4).trans rfl;have rf:=B9.frozen;have hend:=blk_st5 B9 (.bool false) (.bool false) (.slice none 0 0) (.slice none 0 0) (.slice none 0 0);have hE:=zI hend.1;have CE:=zI (Chg.trans (Ct C1.out C8.out) hend.2 (fun i hi e=>by omega));have CL:=zI hend.2;clear hend B9;go_wp2
    exact bodyPost_ret (results_c2 rfl _ _ _ _ _ _ _ _ rfl rfl hE.out Tryz.underlying35 rfl (by kernel_rfl)) rfl ⟨⟨⟨false,false,none,[],0,none,[],0,none,[],0⟩,false,rfl,⟨rd_nil _ _ _,rd_nil _ _ _,rd_nil _ _ _⟩,(fun h=>by cases h),fun _=>hBd.out⟩,CE.out⟩
   | true=>
    go_wp2_with fail
    rw[<-hw8,<-hgz];clear hw8 hgz z0 z1 z2 z3 z4;go_at_call 18
    refine HFw.out.mono ?_;rintro e' w9 ⟨rfl,hC9⟩;have C9:=zI (Ct C8.out hC9);have B9g:=BG.out.chg hC9 (fun h=>h);have hfO9:=zI (hfO8.out.later hC9);obtain ⟨bw,hbw⟩:∃ bw,bw=fewB f:=⟨_,rfl⟩;rw[<-hbw];replace hbw:=zI hbw;clear hC9 HFw;cases bw with
    | false=>
     clear B9g;have hBd:Hid (OfBad l):=.inr ⟨t,s,htr.out,hsel.out,.inr (.inr ⟨f,by rw[<-hfa.out,<-hfb.out,<-hXl.out,<-hYl.out];cases hrr:rowR fa fb Xl Yl with | none=>(have:=hfok.out;rw[hrr] at this;cases this) | some r=>rw[hfr.out r hrr],hbw.out.symm⟩)⟩;have B9:=H2.out w9 C9.out;have r0:w9.cell? ⟨w.heap.size,0,none⟩=some (.bool false):=(B9.cell 0).trans rfl;have r1:w9.cell? ⟨w.heap.size,1,none⟩=some (.bool false):=(B9.cell 1).trans rfl;have r2:w9.cell? ⟨w.heap.size,2,none⟩=some (.slice none 0 0):=(B9.cell 2).trans rfl;have r3:w9.cell? ⟨w.heap.size,3,none⟩=some (.slice none 0 0):=(B9.cell 3).trans rfl;have r4:w9.cell? ⟨w.heap.size,4,none⟩=some (.slice none 0 0):=(B9.cell 4).trans rfl;have rf:=B9.frozen;have hend:=blk_st5 B9 (.bool false) (.bool false) (.slice none 0 0) (.slice none 0 0) (.slice none 0 0);have hE:=zI hend.1;have CE:=zI (Chg.trans (Ct C1.out C9.out) hend.2 (fun i hi e=>by omega));have CL:=zI hend.2;clear hend B9;go_wp2
     exact bodyPost_ret (results_c2 rfl _ _ _ _ _ _ _ _ rfl rfl hE.out Tryz.underlying35 rfl (by kernel_rfl)) rfl ⟨⟨⟨false,false,none,[],0,none,[],0,none,[],0⟩,false,rfl,⟨rd_nil _ _ _,rd_nil _ _ _,rd_nil _ _ _⟩,(fun h=>by cases h),fun _=>hBd.out⟩,CE.out⟩
    | true=>
     have z0:w9.cell? ⟨gz,0,none⟩=some (.bool f.path):=(B9g.cell 0).trans rfl;have z1:w9.cell? ⟨gz,1,none⟩=some (.bool f.lasso):=(B9g.cell 1).trans rfl;have z2:w9.cell? ⟨gz,2,none⟩=some (.slice f.aT f.th.length f.cT):=(B9g.cell 2).trans rfl;have z3:w9.cell? ⟨gz,3,none⟩=some (.slice f.aO f.to.length f.cO):=(B9g.cell 3).trans rfl;have z4:w9.cell? ⟨gz,4,none⟩=some (.slice f.aI f.inn.length f.cI):=(B9g.cell 4).trans rfl;have HBx:=zI (H2.out w9 C9.out);have B9:=H2.out w9 C9.out;have r0:w9.cell? ⟨w.heap.size,0,none⟩=some (.bool false):=(B9.cell 0).trans rfl;have r1:w9.cell? ⟨w.heap.size,1,none⟩=some (.bool false):=(B9.cell 1).trans rfl;have r2:w9.cell? ⟨w.heap.size,2,none⟩=some (.slice none 0 0):=(B9.cell 2).trans rfl;have r3:w9.cell? ⟨w.heap.size,3,none⟩=some (.slice none 0 0):=(B9.cell 3).trans rfl;have r4:w9.cell? ⟨w.heap.size,4,none⟩=some (.slice none 0 0):=(B9.cell 4).trans rfl;have rf:=B9.frozen;have hend:=blk_st5 B9 (.bool f.path) (.bool f.lasso) (.slice f.aT f.th.length f.cT) (.slice f.aO f.to.length f.cO) (.slice f.aI f.inn.length f.cI);have hE:=zI hend.1;have CE:=zI (Chg.trans (Ct C1.out C9.out) hend.2 (fun i hi e=>by omega));have CL:=zI hend.2;clear hend B9;have hKK:Hid (∃ t s,OfK l f t s):=⟨t,s,hn64,hwf.out,hsel.out,hpo.out.symm,by
      rw[<-hfa.out,<-hfb.out,<-hXl.out,<-hYl.out];cases hrr:rowR fa fb Xl Yl with
      | none=>have:=hfok.out;rw[hrr] at this;cases this
      | some r=>rw[hfr.out r hrr],hbw.out.symm⟩
     have hfin:Hid (FgOK _ f):=⟨hfO9.out.th.far CL.out (Nat.le_refl _) (ins_ne HBx.out (by intro v hv n;simp at hv;rcases hv with rfl | rfl<;>simp) hfO9.out.th),hfO9.out.to.far CL.out (Nat.le_refl _) (ins_ne HBx.out (by intro v hv n;simp at hv;rcases hv with rfl | rfl<;>simp) hfO9.out.to),hfO9.out.inn.far CL.out (Nat.le_refl _) (ins_ne HBx.out (by intro v hv n;simp at hv;rcases hv with rfl | rfl<;>simp) hfO9.out.inn)⟩;go_wp2
     exact bodyPost_ret (results_c2 rfl _ _ _ _ _ _ _ _ rfl rfl hE.out Tryz.underlying35 rfl (by kernel_rfl)) rfl ⟨⟨f,true,rfl,hfin.out,(fun _=>hKK.out),fun h=>by cases h⟩,CE.out⟩
theorem count_lt {p q:Nat->Bool}:∀ {l:List Nat},(∀ x ∈ l,p x=true->q x=true)->(∃ x ∈ l,p x=false/\q x=true)->l.countP p+1<=l.countP q
 | [],_,h=>by obtain ⟨x,hx,_⟩:=h;cases hx
 | a::l,hi,h=>by
  have hmono:l.countP p<=l.countP q:=List.countP_mono_left fun x hx hp=>hi x (List.mem_cons_of_mem _ hx) hp
  rw[List.countP_cons,List.countP_cons];obtain ⟨x,hx,h1,h2⟩:=h;rcases List.mem_cons.1 hx with rfl | hx
  ·simp[h1,h2];exact hmono
  ·have ih:=count_lt (fun y hy=>hi y (List.mem_cons_of_mem _ hy)) ⟨x,hx,h1,h2⟩;have ha:=hi a List.mem_cons_self;cases hpa:p a with
   | false=>cases hqa:q a<;>simp<;>omega
   | true=>rw[ha hpa];simp;omega
theorem chain_stops (P:Nat->Nat->Bool) (n:Nat) (hP:∀ m i,i < n->P m i=true->P (m+1) i=true):∃ m,m<=n/\∀ i,i < n->P (m+1) i=P m i:=by
 by_cases h:∃ m,m<=n/\∀ i,i < n->P (m+1) i=P m i
 ·exact h
 ·exfalso
  have key:∀ m,m<=n+1->m<=(List.range n).countP (P m):=by
   intro m
   induction m with
   | zero=>intro _;exact Nat.zero_le _
   | succ m ih=>
    intro hm;have hex:∃ i ∈ List.range n,P m i=false/\P (m+1) i=true:=by
     by_cases hx:∃ i ∈ List.range n,P m i=false/\P (m+1) i=true
     ·exact hx
     ·refine absurd ⟨m,by omega,fun i hi=>?_⟩ h;cases h0:P m i with
      | true=>exact hP m i hi h0
      | false=>
       cases h1:P (m+1) i with
       | false=>rfl
       | true=>exact absurd ⟨i,List.mem_range.2 hi,h0,h1⟩ hx
    have:=count_lt (fun x hx hp=>hP m x (List.mem_range.1 hx) hp) hex;have:=ih (by omega);omega
  have h1:=key (n+1) (Nat.le_refl _);have h2:(List.range n).countP (P (n+1))<=n:=by
   have:=List.countP_le_length (p:=P (n+1)) (l:=List.range n);simpa using this
  omega
theorem fix_of {s:(Nat->Bool)->Nat->Bool} {n m:Nat} {h:Nat->Bool} (hs:Looks s n) (hm:m<=n) (hf:∀ i,i < n->s (iter s m h) i=iter s m h i):∀ i,i < n->s (iter s (n+1) h) i=iter s (n+1) h i:=by
 intro i hi;have h1:=iter_stays hs hf (n+1 - m);have h2:=iter_stays hs hf (n+2 - m);rw[show m+(n+1 - m)=n+1 by omega] at h1;rw[show m+(n+2 - m)=n+1+1 by omega] at h2;exact upTo_eq (h2.trans h1.symm) i hi
theorem fix_up {s:(Nat->Bool)->Nat->Bool} {n:Nat} {h:Nat->Bool} (hs:Looks s n) (hu:∀ m i,i < n->iter s m h i=true->iter s (m+1) h i=true):∀ i,i < n->s (iter s (n+1) h) i=iter s (n+1) h i:=by
 obtain ⟨m,hm,hf⟩:=chain_stops (fun m i=>iter s m h i) n hu;exact fix_of hs hm hf
theorem fix_down {s:(Nat->Bool)->Nat->Bool} {n:Nat} {h:Nat->Bool} (hs:Looks s n) (hu:∀ m i,i < n->iter s (m+1) h i=true->iter s m h i=true):∀ i,i < n->s (iter s (n+1) h) i=iter s (n+1) h i:=by
 obtain ⟨m,hm,hf⟩:=chain_stops (fun m i=>!iter s m h i) n (fun m i hi h0=>by
  cases h1:iter s (m+1) h i with
  | false=>rfl
  | true=>rw[hu m i hi h1] at h0;cases h0)
 exact fix_of hs hm fun i hi=>by
  have h2:(!iter s (m+1) h i)=(!iter s m h i):=hf i hi;have h3:=congrArg not h2;rw[Bool.not_not,Bool.not_not] at h3;exact h3
def Inside (R:List RowI):Prop:=∀ i,∀ k ∈ rowL R i,(0:Int)<=k/\k < R.length
theorem isB_upTo (h:Nat->Bool) (n k:Nat):isB (upTo h n) k=(decide (k < n) && h k):=by
 rw[isB_nat,List.getD_eq_getElem?_getD,upTo_get];by_cases hk:k < n<;>simp[hk]
theorem exB_iff {R:List RowI} {h:Nat->Bool} {i:Nat} (hR:Inside R):exB R (upTo h R.length) i=true<->∃ k:Nat,(k:Int) ∈ rowL R i/\k < R.length/\h k=true:=by
 unfold exB;rw[List.any_eq_true];constructor
 ·rintro ⟨k,hk,h1⟩;obtain ⟨h2,h3⟩:=hR i k hk;obtain ⟨q,rfl⟩:∃ q:Nat,k=q:=⟨k.toNat,by omega⟩;rw[isB_upTo] at h1;simp at h1;exact ⟨q,hk,by omega,h1.2⟩
 ·rintro ⟨k,hk,h1,h2⟩;refine ⟨k,hk,?_⟩;rw[isB_upTo];simp[h1,h2]
theorem every_iff {R:List RowI} {h:Nat->Bool} {i:Nat} (hR:Inside R):everyB R (upTo h R.length) i=true<->∀ k:Nat,(k:Int) ∈ rowL R i->h k=true:=by
 unfold everyB;rw[List.all_eq_true];constructor
 ·intro hh k hk;have:=hh k hk;rw[isB_upTo] at this;simp at this;exact this.2
 ·intro hh k hk;obtain ⟨h2,h3⟩:=hR i k hk;obtain ⟨q,rfl⟩:∃ q:Nat,k=q:=⟨k.toNat,by omega⟩;rw[isB_upTo,hh q hk];simp;omega
theorem all_looks (R:List RowI) (a:List Bool):Looks (allStep R a) R.length:=fun h h' e i hi=>by unfold allStep;rw[e,upTo_eq e i hi]
theorem allStep_eq (R:List RowI) (a:List Bool) (h:Nat->Bool) (i:Nat):allStep R a h i=(h i || (isB a i && everyB R (upTo h R.length) i)):=rfl
theorem egStep_eq (R:List RowI) (h:Nat->Bool) (i:Nat):egStep R h i=(h i && exB R (upTo h R.length) i):=rfl
theorem euStep_eq (R:List RowI) (a b:List Bool) (h:Nat->Bool) (i:Nat):euStep R a b h i=(isB b i || (isB a i && exB R (upTo h R.length) i)):=rfl
section
variable {R:List RowI} (hR:Inside R) (X Y:Nat->Bool)
include hR
theorem au_split (xl yl nb nl:List Bool) (hx:∀ i,i < R.length->isB xl i=X i) (hy:∀ i,i < R.length->isB yl i=Y i) (hn:∀ i,i < R.length->isB nl i=!Y i) (hb:∀ i,i < R.length->isB nb i=(!X i && !Y i)) (i:Nat) (hi:i < R.length):
  iter (allStep R xl) (R.length+1) (fun (i:Nat)=>isB yl i) i=!(iter (euStep R nl nb) (R.length+1) (fun _=>false) i || iter (egStep R) (R.length+1) (fun (i:Nat)=>isB nl i) i):=by
 have upA:∀ m i,i < R.length->iter (allStep R xl) m (fun (i:Nat)=>isB yl i) i=true->iter (allStep R xl) (m+1) (fun (i:Nat)=>isB yl i) i=true:=fun m i hi h=>by
  show allStep R xl _ i=true;rw[allStep_eq];rw[h];rfl
 have upP:∀ m i,i < R.length->iter (euStep R nl nb) m (fun _=>false) i=true->iter (euStep R nl nb) (m+1) (fun _=>false) i=true:=by
  intro m
  induction m with
  | zero=>intro i hi h;cases h
  | succ m ih=>
   intro i hi h;change euStep R nl nb _ i=true at h
   show euStep R nl nb _ i=true;rw[euStep_eq] at h |-;rw[Bool.or_eq_true,Bool.and_eq_true] at h |-;rcases h with h | ⟨h1,h2⟩
   ·exact .inl h
   ·refine .inr ⟨h1,?_⟩;obtain ⟨k,hk,hkn,hk2⟩:=(exB_iff hR).1 h2;exact (exB_iff hR).2 ⟨k,hk,hkn,ih k hkn hk2⟩
 have dnE:∀ m i,i < R.length->iter (egStep R) (m+1) (fun (i:Nat)=>isB nl i) i=true->iter (egStep R) m (fun (i:Nat)=>isB nl i) i=true:=fun m i hi h=>by
  change egStep R _ i=true at h
  rw[egStep_eq] at h;rw[Bool.and_eq_true] at h;exact h.1
 have fA:=fix_up (all_looks R xl) upA;have fP:=fix_up (eu_looks R nl nb) upP;have fE:=fix_down (eg_looks R) dnE;have A0:∀ i,i < R.length->Y i=true->∀ m,iter (allStep R xl) m (fun (i:Nat)=>isB yl i) i=true:=by
  intro i hi h m
  induction m with
  | zero=>show isB yl i=true;rw[hy i hi];exact h
  | succ m ih=>exact upA m i hi ih
 have E0:∀ m i,i < R.length->iter (egStep R) m (fun (i:Nat)=>isB nl i) i=true->Y i=false:=by
  intro m
  induction m with
  | zero=>intro i hi h;change isB nl i=true at h;rw[hn i hi] at h;simpa using h
  | succ m ih=>intro i hi h;exact ih i hi (dnE m i hi h)
 obtain ⟨P,hP⟩:∃ P,P=iter (euStep R nl nb) (R.length+1) (fun _=>false):=⟨_,rfl⟩;obtain ⟨E,hE⟩:∃ E,E=iter (egStep R) (R.length+1) (fun (i:Nat)=>isB nl i):=⟨_,rfl⟩;have E0':=E0 (R.length+1);rw[<-hP] at fP;rw[<-hE] at fE E0';have one:∀ m i,i < R.length->iter (allStep R xl) m (fun (i:Nat)=>isB yl i) i=true->P i=false/\E i=false:=by
  intro m
  induction m with
  | zero=>
   intro i hi h;change isB yl i=true at h
   rw[hy i hi] at h;constructor
   ·rw[<-fP i hi];rw[euStep_eq];rw[hb i hi,hn i hi,h];simp
   ·cases he:E i with
    | false=>rfl
    | true=>have:=E0' i hi he;rw[h] at this;cases this
  | succ m ih=>
   intro i hi h;change allStep R xl _ i=true at h
   rw[allStep_eq] at h;rw[Bool.or_eq_true,Bool.and_eq_true,hx i hi] at h;rcases h with h | ⟨h1,h2⟩
   ·exact ih i hi h
   ·rw[every_iff hR] at h2;constructor
    ·cases hp:P i with
     | false=>rfl
     | true=>
      rw[<-fP i hi] at hp;rw[euStep_eq] at hp;rw[hb i hi,h1] at hp;simp only[Bool.not_true,Bool.false_and,Bool.false_or,Bool.and_eq_true] at hp;obtain ⟨k,hk,hkn,hk2⟩:=(exB_iff hR).1 hp.2;rw[(ih k hkn (h2 k hk)).1] at hk2;cases hk2
    ·cases he:E i with
     | false=>rfl
     | true=>
      rw[<-fE i hi] at he;rw[egStep_eq] at he;rw[Bool.and_eq_true] at he;obtain ⟨k,hk,hkn,hk2⟩:=(exB_iff hR).1 he.2;rw[(ih k hkn (h2 k hk)).2] at hk2;cases hk2
 obtain ⟨A,hA⟩:∃ A,A=iter (allStep R xl) (R.length+1) (fun (i:Nat)=>isB yl i):=⟨_,rfl⟩;have one':=one (R.length+1);have A0':∀ i,i < R.length->Y i=true->A i=true:=fun i hi h=>by rw[hA];exact A0 i hi h _
 rw[<-hA] at fA one';have two:∀ m i,i < R.length->A i=false->P i=false->iter (egStep R) m (fun (i:Nat)=>isB nl i) i=true:=by
  intro m
  induction m with
  | zero=>
   intro i hi ha _;show isB nl i=true;rw[hn i hi];cases hyy:Y i with
   | false=>rfl
   | true=>rw[A0' i hi hyy] at ha;cases ha
  | succ m ih=>
   intro i hi ha hp;show egStep R _ i=true;rw[egStep_eq];rw[Bool.and_eq_true];refine ⟨ih i hi ha hp,?_⟩;have hyf:Y i=false:=by
    cases hyy:Y i with
    | false=>rfl
    | true=>rw[A0' i hi hyy] at ha;cases ha
   have hxt:X i=true:=by
    cases hxx:X i with
    | true=>rfl
    | false=>
     rw[<-fP i hi] at hp;rw[euStep_eq] at hp;rw[hb i hi,hxx,hyf] at hp;simp at hp
   have hne:¬ everyB R (upTo A R.length) i=true:=fun hev=>by
    rw[<-fA i hi] at ha;rw[allStep_eq] at ha;rw[hx i hi,hxt,hev] at ha;simp at ha
   rw[every_iff hR] at hne;have:∃ k:Nat,(k:Int) ∈ rowL R i/\A k=false:=by
    by_cases hc:∃ k:Nat,(k:Int) ∈ rowL R i/\A k=false
    ·exact hc
    ·exact absurd (fun k hk=>by
      cases hak:A k with
      | true=>rfl
      | false=>exact absurd ⟨k,hk,hak⟩ hc) hne
   obtain ⟨k,hk,hak⟩:=this;have hkn:k < R.length:=by have:=(hR i k hk).2;omega
   refine (exB_iff hR).2 ⟨k,hk,hkn,ih k hkn hak ?_⟩;cases hpk:P k with
   | false=>rfl
   | true=>
    rw[<-fP i hi] at hp;rw[euStep_eq] at hp;rw[hn i hi,hyf,(exB_iff hR).2 ⟨k,hk,hkn,hpk⟩] at hp;simp at hp
 rw[<-hA,<-hP,<-hE];cases ha:A i with
 | true=>obtain ⟨h1,h2⟩:=one' i hi ha;rw[h1,h2];rfl
 | false=>
  cases hp:P i with
  | true=>rfl
  | false=>have:=two (R.length+1) i hi ha hp;rw[<-hE] at this;rw[this];rfl
end
def mvT (m p:Nat):Tr.T->Tr.T
 | .leaf a=>.leaf (a - m+p)
 | .one a x=>.one (a - m+p) (mvT m p x)
 | .two a x y=>.two (a - m+p) (mvT m p x) (mvT m p y)
theorem wf_mv {f g:Nat->Int} {m p:Nat}:∀ {t:Tr.T} {lo hi:Nat},Tr.WF f t lo hi->m<=lo->(∀ i,lo<=i->i < hi->g (i - m+p)=f i)->Tr.WF g (mvT m p t) (lo - m+p) (hi - m+p)
 | .leaf a,lo,hi,h,hm,hg=>by
  simp only[Tr.WF] at h;simp only[mvT,Tr.WF];obtain ⟨rfl,h2,h3⟩:=h;exact ⟨rfl,by omega,by rw[hg a (Nat.le_refl _) (by omega)];exact h3⟩
 | .one a x,lo,hi,h,hm,hg=>by
  simp only[Tr.WF] at h;simp only[mvT,Tr.WF];obtain ⟨h1,h2,h3⟩:=h;have:=h3.lt;exact ⟨by omega,by rw[hg a (by omega) (by omega)];exact h2,wf_mv h3 hm fun i h4 h5=>hg i h4 (by omega)⟩
 | .two a x y,lo,hi,h,hm,hg=>by
  simp only[Tr.WF] at h;simp only[mvT,Tr.WF];obtain ⟨h1,h2,q,h3,h4⟩:=h;have:=h3.lt;have:=h4.lt;exact ⟨by omega,by rw[hg a (by omega) (by omega)];exact h2,q - m+p,wf_mv h3 hm fun i h5 h6=>hg i h5 (by omega),wf_mv h4 (by omega) fun i h5 h6=>hg i (by omega) (by omega)⟩
theorem val_mv {R:List RowI} {f g:Nat->Int} {lf lg:Nat->List Bool} {m p:Nat}:∀ {t:Tr.T} {lo hi:Nat},Tr.WF f t lo hi->m<=lo->(∀ i,lo<=i->i < hi->g (i - m+p)=f i)->(∀ i,lo<=i->i < hi->Tr.arity (f i)=0->lg (i - m+p)=lf i)->valA R g lg (mvT m p t)=valA R f lf t
 | .leaf a,lo,hi,h,hm,hg,hl=>by
  simp only[Tr.WF] at h;exact hl a (by omega) (by omega) h.2.2
 | .one a x,lo,hi,h,hm,hg,hl=>by
  simp only[Tr.WF] at h;obtain ⟨h1,h2,h3⟩:=h;have:=h3.lt;simp only[mvT,valA];rw[hg a (by omega) (by omega),val_mv h3 hm (fun i h4 h5=>hg i h4 (by omega)) (fun i h4 h5=>hl i h4 (by omega))]
 | .two a x y,lo,hi,h,hm,hg,hl=>by
  simp only[Tr.WF] at h;obtain ⟨h1,h2,q,h3,h4⟩:=h;have:=h3.lt;have:=h4.lt;simp only[mvT,valA];rw[hg a (by omega) (by omega),val_mv h3 hm (fun i h5 h6=>hg i h5 (by omega)) (fun i h5 h6=>hl i h5 (by omega)),val_mv h4 (by omega) (fun i h5 h6=>hg i (by omega) (by omega)) (fun i h5 h6=>hl i (by omega) (by omega))]
theorem wf_one {f:Nat->Int}:∀ {t u:Tr.T} {lo lo' hi:Nat},Tr.WF f t lo hi->Tr.WF f u lo' hi->t=u/\lo=lo'
 | .leaf a,u,lo,lo',hi,h,h'=>by
  have e1:=h.end_;have e2:=h'.end_;simp only[Tr.WF] at h;cases u with
  | leaf b=>
   simp only[Tr.WF] at h';simp only[Tr.T.endOf] at e1 e2;constructor
   ·congr 1;omega
   ·omega
  | one b y=>
   simp only[Tr.WF] at h';obtain rfl:a=b:=by simp only[Tr.T.endOf] at e1 e2;omega
   omega
  | two b y z=>
   simp only[Tr.WF] at h';obtain rfl:a=b:=by simp only[Tr.T.endOf] at e1 e2;omega
   omega
 | .one a x,u,lo,lo',hi,h,h'=>by
  have e1:=h.end_;have e2:=h'.end_;simp only[Tr.WF] at h;cases u with
  | leaf b=>
   simp only[Tr.WF] at h';obtain rfl:a=b:=by simp only[Tr.T.endOf] at e1 e2;omega
   omega
  | one b y=>
   simp only[Tr.WF] at h';obtain rfl:a=b:=by simp only[Tr.T.endOf] at e1 e2;omega
   obtain ⟨rfl,rfl⟩:=wf_one h.2.2 h'.2.2;exact ⟨rfl,rfl⟩
  | two b y z=>
   simp only[Tr.WF] at h';obtain rfl:a=b:=by simp only[Tr.T.endOf] at e1 e2;omega
   omega
 | .two a x x2,u,lo,lo',hi,h,h'=>by
  have e1:=h.end_;have e2:=h'.end_;simp only[Tr.WF] at h;cases u with
  | leaf b=>
   simp only[Tr.WF] at h';obtain rfl:a=b:=by simp only[Tr.T.endOf] at e1 e2;omega
   omega
  | one b y=>
   simp only[Tr.WF] at h';obtain rfl:a=b:=by simp only[Tr.T.endOf] at e1 e2;omega
   omega
  | two b y z=>
   simp only[Tr.WF] at h';obtain rfl:a=b:=by simp only[Tr.T.endOf] at e1 e2;omega
   obtain ⟨_,_,q,h3,h4⟩:=h;obtain ⟨_,_,q',h3',h4'⟩:=h';obtain ⟨rfl,rfl⟩:=wf_one h4 h4';obtain ⟨rfl,rfl⟩:=wf_one h3 h3';exact ⟨rfl,rfl⟩
def awL:List Nm.Inst:=[opI 14,opI 23]
theorem aw_wf:Tr.WF (sg (shp awL)) (.one 1 (.leaf 0)) 0 2:=by
 show (2=1+1/\Tr.arity (sg (shp awL) 1)=1/\(0=0/\1=0+1/\Tr.arity (sg (shp awL) 0)=0));exact ⟨rfl,by decide,rfl,rfl,by decide⟩
theorem aw_ck:ckT awL=0:=by decide
theorem aw_form:formV awL=(23,0):=by decide
theorem aw_ok:ptsOk (.one 1 (.leaf 0)) awL=true:=by decide
theorem aw_row:rowR 23 0 (ptsX (.one 1 (.leaf 0)) awL) (ptsY (.one 1 (.leaf 0)) awL)=some (true,false,[opI 1],[opI 14,opI 15],[]):=by
 unfold rowR;rw[if_pos rfl];rfl
theorem aw_of {e:Ending} {w':World} (h:OfP awL e w'):∃ f:FgC,e=.returned (.tuple #[.agg (fgA f),.bool true])/\FgOK w' f/\fgI f=(true,false,[opI 1],[opI 14,opI 15],[]):=by
 obtain ⟨f,ok,rfl,hO,h1,h2⟩:=h;have sel:∀ {t s:Tr.T},Tr.WF (sg (shp awL)) t 0 awL.length->(((formV awL).2=0/\s=t)\/((formV awL).2 ≠ 0/\lastO awL 1=15/\t=.one (awL.length - 1) s))->s=.one 1 (.leaf 0):=fun ht hs=>by
  have:=(wf_one ht aw_wf).1;subst this;rcases hs with ⟨_,rfl⟩ | ⟨h,_⟩
  ·rfl
  ·exact absurd (by rw[aw_form]) h
 cases ok with
 | true=>
  obtain ⟨t,s,hk⟩:=h1 rfl;have hs:=sel hk.wf hk.sel;subst hs;have hr:=hk.row;rw[aw_form,aw_row] at hr;injection hr with hr;exact ⟨f,rfl,hO,hr.symm⟩
 | false=>
  exfalso
  rcases h2 rfl with h | ⟨t,s,ht,hs,h⟩
  ·exact h aw_ck
  ·have:=sel (Tr.form_wf ht) hs;subst this;rw[aw_form,aw_row,aw_ok] at h;rcases h with h | h | ⟨f',h,hf⟩
   ·cases h
   ·cases h
   ·injection h with h;obtain ⟨p,la,aT,th,cT,aO,to,cO,aI,inn,cI⟩:=f';simp only[fgI,Prod.mk.injEq] at h;obtain ⟨rfl,rfl,rfl,rfl,rfl⟩:=h;exact absurd hf (by unfold fewB;simp)
theorem awake_any (w:World):Calls Tryz.prog 7 #[] w fun e w'=>e=.returned (.bool true)/\Chg (fun _=>False) w w':=by
 have hb:=Blk.new w 83 #[.int .i64 14,.int .i64 0,.int .i64 0,.int .i64 0,.int .i64 0,.int .i64 0,.int .i64 0,.int .i64 23,.int .i64 0,.int .i64 0,.int .i64 0,.int .i64 0,.int .i64 0,.int .i64 0];have C1:Hid (Chg (fun _=>False) w (w.alloc (.cells #[.int .i64 14,.int .i64 0,.int .i64 0,.int .i64 0,.int .i64 0,.int .i64 0,.int .i64 0,.int .i64 23,.int .i64 0,.int .i64 0,.int .i64 0,.int .i64 0,.int .i64 0,.int .i64 0] 83))):=(Chg.refl _ w).alloc _;have HO:=zI (of_any (w.alloc (.cells #[.int .i64 14,.int .i64 0,.int .i64 0,.int .i64 0,.int .i64 0,.int .i64 0,.int .i64 0,.int .i64 23,.int .i64 0,.int .i64 0,.int .i64 0,.int .i64 0,.int .i64 0,.int .i64 0] 83)) (some ⟨w.heap.size,0,none⟩) 2 awL (by decide) (by decide) (fun _=>⟨_,rfl,by simp,by exact all_new hb⟩) (fun x hx=>by
  unfold awL at hx;simp at hx;rcases hx with rfl | rfl<;>(unfold inR opI;simp)))
 clear hb;go_enter Tryz.func7,Tryz.ntmps7;go_wp2_with fail
 go_at_call 4
 refine HO.out.mono ?_;rintro e w2 ⟨hP,hC2⟩;obtain ⟨f,rfl,hO,hf⟩:=aw_of hP;have C2:=zI (Ct C1.out hC2);obtain ⟨p,la,aT,th,cT,aO,to,cO,aI,inn,cI⟩:=f;simp only[fgI,Prod.mk.injEq] at hf;obtain ⟨rfl,rfl,rfl,rfl,rfl⟩:=hf;have C3:Hid (Chg (fun _=>False) w (w2.alloc (.cells #[.bool true,.bool false,.slice aT 1 cT,.slice aO 2 cO,.slice aI 0 cI] 35))):=C2.out.alloc _;obtain ⟨tb,tt,hA,-,c0,-,-,-,-,-,-⟩:=ins_at (hO.to.later ((Chg.refl (fun _=>False) w2).alloc (.cells #[.bool true,.bool false,.slice aT 1 cT,.slice aO 2 cO,.slice aI 0 cI] 35)) (fun _ h=>h.elim)) (i:=1) (x:=opI 15) rfl;have hA':aO=some ⟨tb,tt,none⟩:=hA;subst hA';have c0':(w2.alloc (.cells #[.bool true,.bool false,.slice aT 1 cT,.slice (some ⟨tb,tt,none⟩) 2 cO,.slice aI 0 cI] 35)).cell? ⟨tb,tt+7,none⟩=some (.int .i64 15):=c0;clear c0 hO hC2 HO hP hA;unfold fgA;simp only[List.length_cons,List.length_nil];go_wp2
 go_ret;exact ⟨rfl,C3.out⟩
theorem getD_upTo (h:Nat->Bool) {n i:Nat} (hi:i < n):(upTo h n).getD i false=h i:=by
 rw[List.getD_eq_getElem?_getD,upTo_get];simp[hi]
theorem getD_notL {a:List Bool} {i:Nat} (hi:i < a.length):(notL a).getD i false=!a.getD i false:=by
 unfold notL;rw[getD_upTo _ hi]
section
variable {R:List RowI} {x y:List Bool} {i:Nat} (hi:i < R.length)
include hi
theorem six_not {v:List Bool} (hv:v.length=R.length):(notL v).getD i false=!v.getD i false:=getD_notL (by omega)
theorem six_au (hR:Inside R) (hx:x.length=R.length) (hy:y.length=R.length):
  (allL R x y).getD i false=!((euL R (notL y) (putL 16 (notL x) (notL y) R.length)).getD i false || (egL R (notL y)).getD i false):=by
 unfold allL euL egL;rw[getD_upTo _ hi,getD_upTo _ hi,getD_upTo _ hi];refine au_split hR (fun i=>x.getD i false) (fun i=>y.getD i false) x y _ _ (fun j _=>isB_nat _ _) (fun j _=>isB_nat _ _) (fun j hj=>?_) (fun j hj=>?_) i hi
 ·rw[isB_nat,getD_notL (by omega)]
 ·rw[isB_nat];unfold putL;rw[getD_upTo _ hj,getD_notL (by omega),getD_notL (by omega)];simp[putB]
theorem six_af (hR:Inside R) (hx:x.length=R.length):(allL R (ttL R) x).getD i false=!(egL R (notL x)).getD i false:=by
 have h:=six_au hi hR (ttL_len R) hx;have key:∀ m j,iter (euStep R (notL x) (putL 16 (notL (ttL R)) (notL x) R.length)) m (fun _=>false) j=false:=by
  intro m
  induction m with
  | zero=>intro j;rfl
  | succ m ih=>
   intro j;show euStep R _ _ _ j=false;rw[euStep_eq];have h1:isB (putL 16 (notL (ttL R)) (notL x) R.length) j=false:=by
    unfold putL;rw[isB_upTo];by_cases hj:j < R.length
    ·rw[getD_notL (by rw[ttL_len];exact hj)];unfold ttL;rw[getD_upTo _ hj];simp[putB]
    ·simp[hj]
   have h2:exB R (upTo (iter (euStep R (notL x) (putL 16 (notL (ttL R)) (notL x) R.length)) m (fun _=>false)) R.length) j=false:=by
    unfold exB;rw[List.any_eq_false];intro k _;have:isB (upTo (iter (euStep R (notL x) (putL 16 (notL (ttL R)) (notL x) R.length)) m (fun _=>false)) R.length) k=false:=by
     unfold isB;rw[List.getD_eq_getElem?_getD,upTo_get];split<;>simp[ih]
    simp[this]
   rw[h1,h2];simp
 rw[h];unfold euL;rw[getD_upTo _ hi,key];simp
end
end
end Go.Proofs.YthohgagkjnbkbaaGreat
