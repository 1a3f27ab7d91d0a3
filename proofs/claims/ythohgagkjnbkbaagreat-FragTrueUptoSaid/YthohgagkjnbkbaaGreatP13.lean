/- FragTrue, part 13: FrLabel. Each theorem says what a function does, or a plain fact, under its own premises alone. -/
import Derived.Test.YthohgagkjnbkbaaGreatP12
set_option maxRecDepth 100000
set_option maxHeartbeats 16000000
namespace Go.Proofs.YthohgagkjnbkbaaGreat
section
open Go.RowKit
theorem rowL_congr {R R':List RowI} (h:R.map (·.l)=R'.map (·.l)):rowL R=rowL R':=by
 funext i
 have e:(R.map (·.l))[i]?=(R'.map (·.l))[i]?:=by rw[h]
 simp only[List.getElem?_map] at e;unfold rowL;cases h1:R[i]?<;>cases h2:R'[i]?<;>simp[h1,h2] at e |-;exact e
theorem valA_congr {R R':List RowI} (h:R.map (·.l)=R'.map (·.l)):valA R=valA R':=by
 have hr:=rowL_congr h;have hl:R.length=R'.length:=by have:=congrArg List.length h;simpa using this
 have he:everyB R=everyB R':=by funext a i;unfold everyB;rw[hr]
 have hx:exB R=exB R':=by funext a i;unfold exB;rw[hr,hl]
 have hg:egL R=egL R':=by funext a;unfold egL egStep;rw[hx,hl]
 have hu:euL R=euL R':=by funext a b;unfold euL euStep;rw[hx,hl]
 have ha:allL R=allL R':=by funext a b;unfold allL allStep;rw[he,hl]
 have ht:ttL R=ttL R':=by unfold ttL;rw[hl]
 have h1:unB R=unB R':=by funext op v;unfold unB;rw[he,hx,hg,hu,ha,ht,hl]
 have h2:biB R=biB R':=by funext op u v;unfold biB;rw[hu,ha,hl]
 funext op lf t
 induction t with
 | leaf a=>rfl
 | one a x ih=>simp only[valA,ih,h1]
 | two a x y ihx ihy=>simp only[valA,ihx,ihy,h2]
def canE (es:List RowE):List RowI:=es.map fun r=>⟨none,toL r,0⟩
theorem canE_l (es:List RowE):(canE es).map (·.l)=es.map toL:=by simp[canE]
def lfL (m:MC) (cs:List Int) (ns:List NC) (x:Nm.Inst):List Bool:=ns.map fun n=>atB m cs n x
def lfAll (m:MC) (cs:List Int) (ns:List NC) (prop:List Nm.Inst) (i:Nat):List Bool:=match prop[i]? with
 | some x=>lfL m cs ns x
 | none=>[]
def Lfs (m:MC) (cs:List Int) (ns:List NC) (prop:List Nm.Inst) (j:Nat) (R:List Rw):Prop:=R.length=j/\∀ (i:Nat) (r:Rw) (x:Nm.Inst),R[i]?=some r->prop[i]?=some x->r.n=ns.length/\r.xs=boolsV (lfL m cs ns x)
theorem Lfs.more {m:MC} {cs:List Int} {ns:List NC} {prop:List Nm.Inst} {j:Nat} {R:List Rw} {x:Nm.Inst} {A:Option Addr} {c:Nat} (h:Lfs m cs ns prop j R) (hx:prop[j]?=some x):Lfs m cs ns prop (j+1) (R++[⟨A,ns.length,c,boolsV (lfL m cs ns x)⟩]):=by
 refine ⟨by simp[h.1],fun i r y hr hy=>?_⟩;rcases Nat.lt_trichotomy i j with hi | hi | hi
 ·rw[List.getElem?_append_left (by rw[h.1];exact hi)] at hr;exact h.2 i r y hr hy
 ·subst hi;rw[List.getElem?_append_right (by rw[h.1];exact Nat.le_refl _),h.1,Nat.sub_self] at hr;rw[hx] at hy;simp at hr hy;subst hr;subst hy;exact ⟨rfl,rfl⟩
 ·rw[List.getElem?_eq_none (by simp[h.1];omega)] at hr;cases hr
def rowsB (m:MC) (cs:List Int) (ns:List NC) (prop:List Nm.Inst) (R:List Rw):List RowB:=(R.zip prop).map fun p=>⟨p.1.a,lfL m cs ns p.2,p.1.c⟩
theorem lfL_len (m:MC) (cs:List Int) (ns:List NC) (x:Nm.Inst):(lfL m cs ns x).length=ns.length:=by simp[lfL]
theorem rowsB_flat (m:MC) (cs:List Int) (ns:List NC):∀ (prop:List Nm.Inst) (R:List Rw),Lfs m cs ns prop prop.length R->(rowsB m cs ns prop R).length=prop.length/\(rowsB m cs ns prop R).flatMap rowBC=R.flatMap rwC
 | [],[],_=>⟨rfl,rfl⟩
 | [],r::R,h=>by have:=h.1;simp at this
 | x::es,[],h=>by have:=h.1;simp at this
 | x::es,r::R,h=>by
  have h2:Lfs m cs ns es es.length R:=⟨by have:=h.1;simpa using this,fun i r' x' hr hx=>h.2 (i+1) r' x' (by simpa using hr) (by simpa using hx)⟩;obtain ⟨h3,h4⟩:=rowsB_flat m cs ns es R h2;have h5:=(h.2 0 r x rfl rfl).1;unfold rowsB at h3 h4 |-;refine ⟨by simpa using h3,?_⟩;rw[List.zip_cons_cons,List.map_cons,List.flatMap_cons,List.flatMap_cons,h4];show [Value.slice r.a (lfL m cs ns x).length r.c]++_=[Value.slice r.a r.n r.c]++_;rw[h5,lfL_len]
theorem rowsB_lf (m:MC) (cs:List Int) (ns:List NC) (prop:List Nm.Inst) (R:List Rw) (h:Lfs m cs ns prop prop.length R):lfD (rowsB m cs ns prop R)=lfAll m cs ns prop:=by
 funext i
 unfold lfD lfAll rowsB;rw[List.getElem?_map];rcases Nat.lt_or_ge i prop.length with hi | hi
 ·have h1:i < R.length:=by rw[h.1];exact hi
  have h2:(R.zip prop)[i]?=some (R[i],prop[i]):=by
   rw[List.getElem?_zip_eq_some];exact ⟨gG h1,gG hi⟩
  rw[h2,gG hi];rfl
 ·rw[List.getElem?_eq_none (l:=prop) hi,List.getElem?_eq_none (by simp;omega)];rfl
theorem rowsB_ok {w0 w:World} {m:MC} {cs:List Int} {ns:List NC} {prop:List Nm.Inst} {R:List Rw} {A:Option Addr} {c:Nat} (h:Lfs m cs ns prop prop.length R) (hR:Rws w0 w 47 4 (.slice A prop.length c) R):LfOK w A (rowsB m cs ns prop R) ns.length:=by
 obtain ⟨h1,h2⟩:=rowsB_flat m cs ns prop R h;have ho:=hR.own;rw[h.1] at ho;refine ⟨by rw[h2];exact own_rdN ho,fun r hr=>?_⟩;unfold rowsB at hr;obtain ⟨⟨p,q⟩,hp,rfl⟩:=List.mem_map.1 hr;obtain ⟨i,hi⟩:=List.getElem?_of_mem hp;rw[List.getElem?_zip_eq_some] at hi;have h5:=h.2 i p q hi.1 hi.2;have h6:=hR.each p (List.mem_of_getElem? hi.1);refine ⟨?_,lfL_len m cs ns q⟩;show Rd w w.heap.size p.a (boolsV (lfL m cs ns q));rw[<-h5.2];exact h6.1
def labL (m:MC) (cs:List Int) (g:GrC) (prop:List Nm.Inst) (t:Tr.T):List Bool:=valA (canE g.es) (sg (shp prop)) (lfAll m cs g.ns prop) t
theorem slice_info (t:TypeId) (h:(Tryz.prog.info? t).map (fun i=>(i.zero,i.size,i.bytes))=some (some (.slice none 0 0),1,24)):∃ i,Tryz.prog.info? t=some i/\i.zero=some (.slice none 0 0)/\i.size=1/\i.bytes=24:=info_3 h
theorem sl52:(Tryz.prog.info? 52).map (fun i=>(i.zero,i.size,i.bytes))=some (some (.slice none 0 0),1,24):=by kernel_rfl
theorem sl47:(Tryz.prog.info? 47).map (fun i=>(i.zero,i.size,i.bytes))=some (some (.slice none 0 0),1,24):=by kernel_rfl
theorem toL_take {r:RowE} {k:Nat} {x:Int × Int × Int} (h:r.l[k]?=some x):(toL r).take (k+1)=(toL r).take k++[x.2.2]:=by
 obtain ⟨hk,rfl⟩:=List.getElem?_eq_some_iff.1 h;have:k < (toL r).length:=by simpa [toL] using hk
 rw[List.take_succ_eq_append_getElem this];simp[toL]
theorem lfL_take {m:MC} {cs:List Int} {ns:List NC} {x:Nm.Inst} {k:Nat} {n:NC} (h:ns[k]?=some n):(lfL m cs ns x).take (k+1)=(lfL m cs ns x).take k++[atB m cs n x]:=by
 obtain ⟨hk,rfl⟩:=List.getElem?_eq_some_iff.1 h;have:k < (lfL m cs ns x).length:=by simpa [lfL] using hk
 rw[List.take_succ_eq_append_getElem this];simp[lfL]
theorem label_any (w:World) (m:MC) (D:Option Addr) (d:Nat) (q:List Int) (g:GrC) (A:Option Addr) (c:Nat) (prop:List Nm.Inst) (t:Tr.T) (hM:MOK w m) (hnU:m.nU<=1000) (hQ:Rd w w.heap.size D (intsV q)) (hq:q.length<=100000) (hG:GOK w g) (hne:g.es.length=g.ns.length) (h0:0 < g.ns.length) (hr:Rd w w.heap.size A (prop.flatMap instV7)) (hl:prop.length<=64) (hck:Tr.check (sg (shp prop)) prop.length=0) (ht:Tr.run (sg (shp prop)) prop.length=some [t]):
  Calls Tryz.prog 10 #[.agg (mA m),.slice D q.length d,.agg (grA g),.slice A prop.length c] w fun e w'=>∃ B b,e=.returned (.tuple #[.slice B (labL m (srt q) g prop t).length b,.int .i64 0])/\(labL m (srt q) g prop t).length<=maxLen/\Rd w' w'.heap.size B (boolsV (labL m (srt q) g prop t))/\Chg (fun _=>False) w w':=by
 obtain ⟨i1,hi1,z10,z11,z12⟩:=info_3 int_info;obtain ⟨i2,hi2,z20,z21,z22⟩:=slice_info 52 sl52;obtain ⟨i3,hi3,z30,z31,z32⟩:=info_3 bool_info;obtain ⟨i4,hi4,z40,z41,z42⟩:=slice_info 47 sl47;obtain ⟨h1,h2⟩:=cells2 w 32 44 (mA m) (grA g);have C0:=zI (chg2 w (.cells (mA m) 32) (.cells (grA g) 44));have HAt:=zI (fun (w':World) (h:Chg (fun _=>False) w w') (n:NC) (x:Nm.Inst) (hn:n ∈ g.ns)=>at33_any w' m D d q n x (hM.later h) hnU (hQ.later h (fun _ h=>h.elim)) hq ((hG.ns n hn).later h));obtain ⟨cs,hcs⟩:∃ cs,cs=srt q:=⟨_,rfl⟩;rw[<-hcs] at HAt |-;have HI:=zI (refItems_any ((w.alloc (.cells (mA m) 32)).alloc (.cells (grA g) 44)) A c prop (hr.later C0.out (fun _ h=>h.elim)));have hm:min prop.length 70=prop.length:=by omega
 unfold ItR at HI;rw[hm,show itemsUp prop prop.length=shp prop from itemsUp_all prop,shp_len] at HI;obtain ⟨w1,hw1⟩:∃ w1,w1=(w.alloc (.cells (mA m) 32)).alloc (.cells (grA g) 44):=⟨_,rfl⟩;rw[<-hw1] at h1 h2 C0 HI;have HMc:=zI (fun (w':World) (h:Chg (fun _=>False) w1 w')=>mcells (h1.chg h (fun h=>h)));obtain ⟨N,hN⟩:∃ N,N=g.ns.length:=⟨_,rfl⟩;have heN:g.es.length=N:=by rw[hne,hN]
 have HGc:=zI (fun (w':World) (h:Chg (fun _=>False) w1 w')=>(show w'.cell? ⟨w.heap.size+1,0,none⟩=some (.slice g.nA N g.nC)/\w'.cell? ⟨w.heap.size+1,1,none⟩=some (.slice g.eA N g.eC) from by
  have hb:=h2.chg h (fun h=>h);rw[hb.cell,hb.cell,hN];exact ⟨rfl,by rw[<-hne];rfl⟩))
 have HG:=zI (fun (w':World) (h:Chg (fun _=>False) w1 w')=>(hG.later C0.out).later h);have HP:=zI (fun (w':World) (h:Chg (fun _=>False) w1 w')=>(hr.later C0.out (fun _ h=>h.elim)).later h (fun _ h=>h.elim));have hN1:N<=1000:=by rw[hN];exact hG.few.1
 have HC:=zI (fun (w':World) (B:Option Addr) (b:Nat) (h:Rd w' w'.heap.size B (cellsI (shp prop)))=>refCheck_any' w' B b (shp prop) (by rw[shp_len];unfold maxLen;omega) h);rw[shp_len,hck] at HC;have hpl:0 < prop.length:=(Tr.check_zero.1 hck).1;obtain ⟨p,hp⟩:∃ p,prop.length=p+1:=⟨prop.length - 1,by omega⟩;have hwf:Hid (Tr.WF (sg (shp prop)) t 0 (p+1)):=by show _;rw[<-hp];exact Tr.form_wf ht
 have hpw:Hid (IntKind.i64.wrap ((prop.length:Int) - 1)=p):=by show _=_;rw[IntKind.wrap_i64];omega
 replace hp:=zI hp;replace hN:=zI hN;replace heN:=zI heN;replace hq:=zI hq;clear hM hQ hG hr hcs h1 h2 hck ht hm hne hnU;obtain ⟨L,hL⟩:∃ L,L=labL m cs g prop t:=⟨_,rfl⟩;rw[<-hL];unfold labL at hL;replace hL:=zI hL;have hw1':=hw1;unfold mA grA at hw1';have g0:=HGc.out w1 (Chg.refl _ _);rw[hw1'] at g0;obtain ⟨g0,g1⟩:=g0;unfold mA grA;rw[<-hN.out,heN.out];unfold grA mA at hw1;rw[<-hN.out,heN.out] at hw1;clear hw1';go_enter Tryz.func10,Tryz.ntmps10;go_wp2_with (first
  | (go_at_call 30;rw[<-hw1];refine HI.out.mono ?_;rintro e w2 ⟨Ai,ci,rfl,hRi,hC2⟩;have C2:=zI hC2;have RI:=zI hRi;obtain ⟨g0,g1⟩:=HGc.out w2 hC2;clear hRi hC2 HI hw1)
  | (go_at_call 31;refine (HC.out w2 Ai ci RI.out).mono ?_;rintro e w3 ⟨rfl,rfl⟩;clear HC))
 clear g0 g1;go_loopw [12,11,13,14] (fun x v _ _ wr=>∃ (j:Nat) (R:List Rw),j<=N/\x=.int .i64 j/\Hid (Nxt g.es j R)/\Hid (Rws w2 wr 52 3 v R)) (fun x _ _ _ _=>N - (intOf x).toNat)
 case atStart=>exact ⟨0,[],Nat.zero_le _,rfl,Nxt.start _,Rws.start _ _ _⟩
 case round=>
  rename World=>wo
  obtain ⟨j,R,hj,rfl,hX,hR⟩:=hrel;have Cr:=zI (Ct C2.out hR.out.chg);obtain ⟨g0,g1⟩:=HGc.out wo Cr.out;by_cases hlt:j < N
  ·obtain ⟨r,hr⟩:∃ r,g.es[j]?=some r:=⟨_,gG (by rw[heN.out];exact hlt)⟩;have hre:=(HG.out wo Cr.out).es r (List.mem_of_getElem? hr);have hrl:=hre.2;replace hre:=zI hre.1;obtain ⟨eb,eo,heA,_,hec⟩:=row_at (f:=rowEC) (C:=1) (fun _=>rfl) (by omega) (HG.out wo Cr.out).eR hr;have e0:=hec 0 _ rfl;simp only[Nat.mul_one,Nat.add_zero] at e0;rw[heA] at g1;have htl:Hid ((toL r).length=r.l.length):=by show _=_;simp[toL]
   have hX2:=zI (fun (B:Option Addr) (b:Nat)=>hX.out.more (A:=B) (c:=b) hr);clear hec hr;replace heA:=zI heA;go_wp2_with fail
   go_loopw [14,13] (fun y t wk=>∃ k:Nat,k<=r.l.length/\y=.int .i64 k/\Hid (wk.ownsRow wo.heap.size 3 1 t k (intsV ((toL r).take k)))/\Hid (Chg (fun _=>False) wo wk)) (fun y _ _=>r.l.length - (intOf y).toNat)
   case atStart=>exact ⟨0,Nat.zero_le _,rfl,zI (World.ownsRow_nil _ _ _ _),Chg.refl _ _⟩
   case round=>
    obtain ⟨k,hk,rfl,hO,hC⟩:=hrel;replace g0:=keep_cell hC.out (fun _ h=>h) g0;replace g1:=keep_cell hC.out (fun _ h=>h) g1;replace e0:=keep_cell hC.out (fun _ h=>h) e0;by_cases hkl:k < r.l.length
    ·obtain ⟨x,hx⟩:∃ x,r.l[k]?=some x:=⟨_,gG hkl⟩;obtain ⟨rb,ro,hrA,_,hrc⟩:=row_at (f:=edC) (C:=3) (fun _=>rfl) (by omega) (hre.out.later hC.out (fun _ h=>h.elim)) hx;have c2:=hrc 2 _ rfl;have hs:=zI (toL_take hx);rw[hrA] at e0;clear hrc hx hrA;go_wp2_with (at_builtin;refine wpList_append_own _ rfl (.tmp 50) (.tmp 60) 52 rfl wo.heap.size 3 i1 _ 1 8 Tryz.underlying52 hi1 z10 z11 z12 rfl (by omega) u13 k (intsV ((toL r).take k)) rfl (by exact hO.out.alloc _) ⟨wr.heap.size,0,none⟩ 1 1 [.int .i64 x.2.2] rfl rfl (by exact all_new (Blk.new wr 3 #[.int .i64 x.2.2])) (by intro u hu;simp at hu;subst hu;rfl) (by unfold maxLen;omega) (by omega) (by have:=hC.out.size;simp;omega) ?_;intro v' w5 hown3 hg3 hat3;have HO3:=zI hown3;have HC3:=zI (app1 hO.out hC.out _ hg3);clear hown3 hg3 hat3)
     go_roundw
     case rel=>exact ⟨k+1,by omega,by go_num,zI (by rw[hs.out,intsV_append];exact HO3.out),HC3⟩
     case measure=>(simp[intOf]<;>omega)
    ·obtain rfl:k=r.l.length:=by omega
     obtain ⟨B,b,rfl,hqc,hcm⟩:=own_slice hO.out;have hB:Hid (RwOK wr 3 ⟨B,(toL r).length,b,intsV (toL r)⟩):=by
      have h:=RwOK.own hO.out;rw[List.take_of_length_le (by rw[htl.out];exact Nat.le_refl _)] at h;show RwOK _ _ _;rw[htl.out];exact h
     have hRk:=zI (hR.out.later hC.out);have hOw:Hid (wr.ownsRow w2.heap.size 52 1 u11 j (R.flatMap rwC)):=by show World.ownsRow _ _ _ _ _ _ _;have:=hRk.out.own;rwa [hX.out.1] at this
     have hX3:=zI (hX2.out B b);clear hqc hcm hX2;go_wp2_with (at_builtin;refine wpList_append_own _ rfl (.tmp 62) (.tmp 64) 51 rfl w2.heap.size 52 i2 _ 1 24 Tryz.underlying51 hi2 z20 z21 z22 rfl (by omega) u11 j (R.flatMap rwC) rfl (by exact hOw.out.alloc _) ⟨wr.heap.size,0,none⟩ 1 1 [.slice B r.l.length b] rfl rfl (by exact all_new (Blk.new wr 52 #[.slice B r.l.length b])) (by intro u hu;simp at hu;subst hu;rfl) (by unfold maxLen;omega) (by omega) (by have:=hRk.out.chg.size;simp;omega) ?_;intro v' w5 hown3 hg3 hat3;have HR3:=zI (Rws.more hRk.out (by decide) hB.out (by rw[hX.out.1];show World.ownsRow _ _ _ _ _ _ (_++[Value.slice B (toL r).length b]);rw[htl.out];exact hown3) hg3);clear hown3 hg3 hat3)
     go_roundw
     case rel=>exact ⟨j+1,_,by omega,by go_num,hX3,HR3⟩
     case measure=>(simp[intOf]<;>omega)
  ·obtain rfl:N=j:=by omega
   have hRo:=hR.out.own;rw[hX.out.1] at hRo;obtain ⟨B,b,rfl,hqc,hcm⟩:=own_slice hRo;have hNx:Hid (NxOK wo B (rowsI g.es R)):=rowsI_ok (c:=b) (by rw[heN.out];exact hX.out) (by rw[heN.out];exact hR.out) (by rw[heN.out];exact hN1) (fun r hr=>((HG.out wo Cr.out).es r hr).2);have hRl:Hid (Nxt g.es g.es.length R):=by show Nxt _ _ _;rw[heN.out];exact hX.out
   have hRL:Hid ((rowsI g.es R).map (·.l)=g.es.map toL):=rowsI_l (by rw[heN.out];exact hX.out);have hRc:=zI hR.out.chg;clear hqc hcm hRo hX hR;go_wp2_with fail
   clear g0 g1;go_loopw [16,15,17,18] (fun x v _ _ wr=>∃ (i:Nat) (R2:List Rw),i<=prop.length/\x=.int .i64 i/\Hid (Lfs m cs g.ns prop i R2)/\Hid (Rws wo wr 47 4 v R2)) (fun x _ _ _ _=>prop.length - (intOf x).toNat)
   case atStart=>exact ⟨0,[],Nat.zero_le _,rfl,⟨rfl,fun i r x h=>by simp at h⟩,Rws.start _ _ _⟩
   case round=>
    rename World=>wp
    obtain ⟨i,R2,hj,rfl,hX,hR⟩:=hrel;have Cp:=zI (Ct Cr.out hR.out.chg);obtain ⟨g0,g1⟩:=HGc.out wp Cp.out;by_cases hlt2:i < prop.length
    ·obtain ⟨x,hx⟩:∃ x,prop[i]?=some x:=⟨_,gG hlt2⟩;obtain ⟨pb,po,rfl,_,c0,c1,c2,c3,c4,c5,c6⟩:=ins_at (HP.out w1 (Chg.refl _ _)) hx;have HPx:=zI (fun (w':World) (h:Chg (fun _=>False) w1 w')=>(⟨keep_cell h (fun _ h=>h) c0,keep_cell h (fun _ h=>h) c1,keep_cell h (fun _ h=>h) c2,keep_cell h (fun _ h=>h) c3,keep_cell h (fun _ h=>h) c4,keep_cell h (fun _ h=>h) c5,keep_cell h (fun _ h=>h) c6⟩:_/\_/\_/\_/\_/\_/\_));have hX2:=zI (fun (B:Option Addr) (b:Nat)=>hX.out.more (A:=B) (c:=b) hx);have hll:Hid ((lfL m cs g.ns x).length=N):=by show _=_;rw[lfL_len,hN.out]
     clear c0 c1 c2 c3 c4 c5 c6 hx;go_wp2_with fail
     go_loopw [18,17] (fun y t wk=>∃ k:Nat,k<=N/\y=.int .i64 k/\Hid (wk.ownsRow wp.heap.size 4 1 t k (boolsV ((lfL m cs g.ns x).take k)))/\Hid (Chg (fun _=>False) wp wk)) (fun y _ _=>N - (intOf y).toNat)
     case atStart=>exact ⟨0,Nat.zero_le _,rfl,zI (World.ownsRow_nil _ _ _ _),Chg.refl _ _⟩
     case round=>
      obtain ⟨k,hk,rfl,hO,hC⟩:=hrel;replace g0:=keep_cell hC.out (fun _ h=>h) g0;replace g1:=keep_cell hC.out (fun _ h=>h) g1;by_cases hkl:k < N
      ·obtain ⟨n,hn⟩:∃ n,g.ns[k]?=some n:=⟨_,gG (by rw[<-hN.out];exact hkl)⟩;obtain ⟨nb,no,hnA,_,hnc⟩:=row_at (f:=nC) (C:=6) (fun _=>rfl) (by omega) (HG.out w1 (Chg.refl _ _)).nR hn;have n0:=hnc 0 _ rfl;have n1:=hnc 1 _ rfl;have n2:=hnc 2 _ rfl;have n3:=hnc 3 _ rfl;have n4:=hnc 4 _ rfl;have n5:=hnc 5 _ rfl;rw[Nat.add_zero] at n0;have HNn:=zI (fun (w':World) (h:Chg (fun _=>False) w1 w')=>(⟨keep_cell h (fun _ h=>h) n0,keep_cell h (fun _ h=>h) n1,keep_cell h (fun _ h=>h) n2,keep_cell h (fun _ h=>h) n3,keep_cell h (fun _ h=>h) n4,keep_cell h (fun _ h=>h) n5⟩:_/\_/\_/\_/\_/\_));have HGn:=zI (fun (w':World) (h:Chg (fun _=>False) w1 w')=>(show w'.cell? ⟨w.heap.size+1,0,none⟩=some (.slice (some ⟨nb,no,none⟩) N g.nC) by rw[<-hnA];exact (HGc.out w' h).1));have hs:=zI (lfL_take (m:=m) (cs:=cs) (x:=x) hn);have HX:=zI (fun (w':World) (h:Chg (fun _=>False) w1 w')=>HAt.out w' (Ct C0.out h) n x (List.mem_of_getElem? hn));obtain ⟨bv,hbv⟩:∃ bv,bv=atB m cs n x:=⟨_,rfl⟩;rw[<-hbv] at HX hs;unfold mA nA iA at HX;have Cw:=zI (Ct Cp.out hC.out);have HZ:=zI (fun (wz:World) (h:Chg (fun k=>u17.ownBlock=some k) wr wz)=>(Chg.trans Cw.out h (fun i hi e=>by have h1:=(hO.out.lt i e).1;have h2:=Cp.out.size;omega):Chg (fun _=>False) w1 wz));clear hnc n0 n1 n2 n3 n4 n5 hn hnA hbv;go_wp2_with fail
       clear g0 g1;refine region_mvk (by kernel_rfl) [some 79,some 80,some 81,some 82,some 83,some 84,some 85,some 86,some 87,some 88,some 89,some 90,some 91,some 92,some 93,some 17] [79,80,81,82,83,84,85,86,87,88,89,90,91,92,93,17] [.is (u17),.is (.agg #[.slice m.aA m.nA m.cA,.slice m.aI m.nI m.cI,.slice m.aU m.nU m.cU,.slice m.aR m.ro.length m.cR,.slice m.aS m.nS m.cS,.slice m.aE m.ev.length m.cE,.slice m.aG m.gu.length m.cG,.slice m.aM m.mi.length m.cM,.slice m.aD m.so.length m.cD,.slice m.aO m.nO m.cO]),.is (.slice D q.length d),.is (.pointer (some ⟨w.heap.size+1,0,none⟩)),.is (.slice (some ⟨nb,no,none⟩) N g.nC),.is (.int .i64 k),.is (.pointer (some ⟨nb,no+k * 6,none⟩)),.is (.agg #[.slice n.z.cA n.z.cl.length n.z.cC,.slice n.z.gA n.z.gl.length n.z.gC,.int .i64 n.op,.int .i64 n.dn,.slice n.aD n.did.length n.cD,.slice n.aC n.cnt.length n.cC]),.is (.slice (some ⟨pb,po,none⟩) prop.length c),.is (.int .i64 i),.is (.pointer (some ⟨pb,po+i * 7,none⟩)),.is (.agg #[.int .i64 x.op,.int .i64 x.la,.int .i64 x.lnum,.int .i64 x.ra,.int .i64 x.rnum,.int .i64 x.n,.int .i64 x.user]),.is (.bool bv),.su (fun v w'=>∃ g',v=.slice (some ⟨g',0,none⟩) 1 1/\Blk w' g' 4 #[.bool bv]/\wr.heap.size<=g'),.su (fun v w'=>w'.ownsRow wp.heap.size 4 1 v (k+1) (boolsV ((lfL m cs g.ns x).take k)++[.bool bv])),.su (fun _ _=>True)] 14 (fun k=>u17.ownBlock=some k) 15 (by kernel_rfl) (by kernel_rfl) (by kernel_rfl) (by kernel_rfl) ?_ ?_
       ·refine ⟨?_,?_,?_,?_,?_,?_,?_,?_,?_,?_,?_,?_,?_,?_,?_,trivial⟩
        ·intro f a wz _ _ _ _ hp _;have x17:(a.tmps[17]?).getD undef=u17:=(hp 15 17 (by kernel_rfl) rfl).trans rfl;exact mv_is rfl rfl (by simp[execOp,go_sem,x17]) rfl (by simp)
        ·intro f a wz _ hout hC3 _ _ _;have x4:(a.tmps[4]?).getD undef=.pointer (some ⟨w.heap.size,0,none⟩):=hout 4 (by rfl);exact mv_is rfl rfl (by simp[execOp,go_sem,Result.andThen,x4,(HMc.out wz (HZ.out wz hC3)).1,(HMc.out wz (HZ.out wz hC3)).2.1,(HMc.out wz (HZ.out wz hC3)).2.2.1,(HMc.out wz (HZ.out wz hC3)).2.2.2.1,(HMc.out wz (HZ.out wz hC3)).2.2.2.2.1,(HMc.out wz (HZ.out wz hC3)).2.2.2.2.2.1,(HMc.out wz (HZ.out wz hC3)).2.2.2.2.2.2.1,(HMc.out wz (HZ.out wz hC3)).2.2.2.2.2.2.2.1,(HMc.out wz (HZ.out wz hC3)).2.2.2.2.2.2.2.2.1,(HMc.out wz (HZ.out wz hC3)).2.2.2.2.2.2.2.2.2]) rfl (by simp)
        ·intro f a wz _ hout _ _ _ _;have x1:(a.tmps[1]?).getD undef=.slice D q.length d:=hout 1 (by rfl);exact mv_is rfl rfl (by simp[execOp,go_sem,x1]) rfl (by simp)
        ·intro f a wz _ hout _ _ _ _;have x6:(a.tmps[6]?).getD undef=.pointer (some ⟨w.heap.size+1,0,none⟩):=hout 6 (by rfl);exact mv_is rfl rfl (by simp[execOp,go_sem,Result.andThen,x6]) rfl (by simp)
        ·intro f a wz hin _ hC3 _ _ hd;have x82:(a.tmps[82]?).getD undef=.pointer (some ⟨w.heap.size+1,0,none⟩):=(hin 82 (by rfl)).trans (hd 3 (by kernel_rfl));exact mv_is rfl rfl (by simp[execOp,go_sem,Result.andThen,x82,HGn.out wz (HZ.out wz hC3)]) rfl (by simp)
        ·intro f a wz _ hout _ _ _ _;have x18:(a.tmps[18]?).getD undef=.int .i64 k:=hout 18 (by rfl);exact mv_is rfl rfl (by simp[execOp,go_sem,x18]) rfl (by simp)
        ·intro f a wz hin _ _ _ _ hd;have x83:(a.tmps[83]?).getD undef=.slice (some ⟨nb,no,none⟩) N g.nC:=(hin 83 (by rfl)).trans (hd 4 (by kernel_rfl));have x84:(a.tmps[84]?).getD undef=.int .i64 k:=(hin 84 (by rfl)).trans (hd 5 (by kernel_rfl));exact mv_is rfl rfl (by simp[execOp,go_sem,Result.andThen,x83,x84,hkl]) rfl (by simp)
        ·intro f a wz hin _ hC3 _ _ hd;have x85:(a.tmps[85]?).getD undef=.pointer (some ⟨nb,no+k * 6,none⟩):=(hin 85 (by rfl)).trans (hd 6 (by kernel_rfl));exact mv_is rfl rfl (by simp[execOp,go_sem,Result.andThen,x85,(HNn.out wz (HZ.out wz hC3)).1,(HNn.out wz (HZ.out wz hC3)).2.1,(HNn.out wz (HZ.out wz hC3)).2.2.1,(HNn.out wz (HZ.out wz hC3)).2.2.2.1,(HNn.out wz (HZ.out wz hC3)).2.2.2.2.1,(HNn.out wz (HZ.out wz hC3)).2.2.2.2.2]) rfl (by simp)
        ·intro f a wz _ hout _ _ _ _;have x3:(a.tmps[3]?).getD undef=.slice (some ⟨pb,po,none⟩) prop.length c:=hout 3 (by rfl);exact mv_is rfl rfl (by simp[execOp,go_sem,x3]) rfl (by simp)
        ·intro f a wz _ hout _ _ _ _;have x16:(a.tmps[16]?).getD undef=.int .i64 i:=hout 16 (by rfl);exact mv_is rfl rfl (by simp[execOp,go_sem,x16]) rfl (by simp)
        ·intro f a wz hin _ _ _ _ hd;have x87:(a.tmps[87]?).getD undef=.slice (some ⟨pb,po,none⟩) prop.length c:=(hin 87 (by rfl)).trans (hd 8 (by kernel_rfl));have x88:(a.tmps[88]?).getD undef=.int .i64 i:=(hin 88 (by rfl)).trans (hd 9 (by kernel_rfl));exact mv_is rfl rfl (by simp[execOp,go_sem,Result.andThen,x87,x88,hlt2]) rfl (by simp)
        ·intro f a wz hin _ hC3 _ _ hd;have x89:(a.tmps[89]?).getD undef=.pointer (some ⟨pb,po+i * 7,none⟩):=(hin 89 (by rfl)).trans (hd 10 (by kernel_rfl));exact mv_is rfl rfl (by simp[execOp,go_sem,Result.andThen,x89,(HPx.out wz (HZ.out wz hC3)).1,(HPx.out wz (HZ.out wz hC3)).2.1,(HPx.out wz (HZ.out wz hC3)).2.2.1,(HPx.out wz (HZ.out wz hC3)).2.2.2.1,(HPx.out wz (HZ.out wz hC3)).2.2.2.2.1,(HPx.out wz (HZ.out wz hC3)).2.2.2.2.2.1,(HPx.out wz (HZ.out wz hC3)).2.2.2.2.2.2]) rfl (by simp)
        ·intro f a wz hin _ hC3 _ _ hd;have x80:(a.tmps[80]?).getD undef=.agg #[.slice m.aA m.nA m.cA,.slice m.aI m.nI m.cI,.slice m.aU m.nU m.cU,.slice m.aR m.ro.length m.cR,.slice m.aS m.nS m.cS,.slice m.aE m.ev.length m.cE,.slice m.aG m.gu.length m.cG,.slice m.aM m.mi.length m.cM,.slice m.aD m.so.length m.cD,.slice m.aO m.nO m.cO]:=(hin 80 (by rfl)).trans (hd 1 (by kernel_rfl));have x81:(a.tmps[81]?).getD undef=.slice D q.length d:=(hin 81 (by rfl)).trans (hd 2 (by kernel_rfl));have x86:(a.tmps[86]?).getD undef=.agg #[.slice n.z.cA n.z.cl.length n.z.cC,.slice n.z.gA n.z.gl.length n.z.gC,.int .i64 n.op,.int .i64 n.dn,.slice n.aD n.did.length n.cD,.slice n.aC n.cnt.length n.cC]:=(hin 86 (by rfl)).trans (hd 7 (by kernel_rfl));have x90:(a.tmps[90]?).getD undef=.agg #[.int .i64 x.op,.int .i64 x.la,.int .i64 x.lnum,.int .i64 x.ra,.int .i64 x.rnum,.int .i64 x.n,.int .i64 x.user]:=(hin 90 (by rfl)).trans (hd 11 (by kernel_rfl));exact mv_calli (f:=32) (args:=#[.agg #[.slice m.aA m.nA m.cA,.slice m.aI m.nI m.cI,.slice m.aU m.nU m.cU,.slice m.aR m.ro.length m.cR,.slice m.aS m.nS m.cS,.slice m.aE m.ev.length m.cE,.slice m.aG m.gu.length m.cG,.slice m.aM m.mi.length m.cM,.slice m.aD m.so.length m.cD,.slice m.aO m.nO m.cO],.slice D q.length d,.agg #[.slice n.z.cA n.z.cl.length n.z.cC,.slice n.z.gA n.z.gl.length n.z.gC,.int .i64 n.op,.int .i64 n.dn,.slice n.aD n.did.length n.cD,.slice n.aC n.cnt.length n.cC],.agg #[.int .i64 x.op,.int .i64 x.la,.int .i64 x.lnum,.int .i64 x.ra,.int .i64 x.rnum,.int .i64 x.n,.int .i64 x.user]]) rfl rfl (by simp[go_sem,x80,x81,x86,x90]) rfl (by simp) (HX.out wz (HZ.out wz hC3))
        ·intro f a wz hin _ hC3 _ _ hd;have x91:(a.tmps[91]?).getD undef=.bool bv:=(hin 91 (by rfl)).trans (hd 12 (by kernel_rfl));exact mv_su rfl rfl (by simp[execOp,go_sem,Result.andThen,x91]) rfl ⟨_,rfl,Blk.new wz 4 #[.bool bv],hC3.size⟩ ((Chg.refl _ _).alloc _) (by simp)
        ·intro f a wz hin _ hC3 hA _ hd;have x79:(a.tmps[79]?).getD undef=u17:=(hin 79 (by rfl)).trans (hd 0 (by kernel_rfl));obtain ⟨v92w,v92c,v92p⟩:=hd 13 (by kernel_rfl);have x92:=hin 92 (by rfl);obtain ⟨g',v92e,hb',hg'⟩:=v92p;replace x92:=x92.trans v92e;have hOz:=own_chg hO.out (hA rfl) (fun _ _ h=>h);have hbz:=hb'.chg v92c (fun h=>by have:=own_lt hO.out _ h.2;omega);obtain ⟨v',w',hr,h2,h3⟩:=run_copy (P:=Tryz.prog) wz wp.heap.size 47 47 4 i3 _ 1 1 Tryz.underlying47 hi3 z30 z31 z32 rfl (by omega) u17 k _ hOz (some ⟨g',0,none⟩) 1 1 wz.heap.size [.bool bv] rfl (fun _=>⟨_,rfl,hbz.lt,all_new hbz⟩) (by intro u hu;simp at hu;subst hu;rfl) (by unfold maxLen;omega) (by omega) (by have:=hC3.size;have:=hC.out.size;omega);exact mv_mv rfl rfl (run_app rfl x79 x92 hr) rfl h2 rfl (Chg.grown (Chg.refl _ _) h3 (fun k hk=>.inl hk)) (by simp)
       ·intro f a wz ha hin hout hC3 hd;obtain ⟨v93w,v93c,hown⟩:=hd 14 (by omega);replace v93c:=v93c.mono (T:=fun _=>False) (fun _ _ h=>h.1 rfl);have x93:=hin 93 (by rfl);have HO3:Hid (wz.ownsRow wp.heap.size 4 1 (f 93) (k+1) (boolsV ((lfL m cs g.ns x).take (k+1)))):=by show World.ownsRow _ _ _ _ _ _ _;rw[hs.out,boolsV_append];exact own_chg hown v93c (fun _ _ h=>h)
        have HC4:Hid (Chg (fun _=>False) wp wz):=Chg.trans hC.out hC3 (fun i hi e=>by have h1:=(hO.out.lt i e).1;omega);refine wpOp_valueD (w':=wz) (v:=f 93) (d:=17) rfl rfl (by simp[execOp,go_sem,x93]) rfl ?_;obtain ⟨v17,hv17⟩:∃ v17,v17=f 93:=⟨_,rfl⟩;rw[<-hv17] at HO3 |-;clear hd hC3 hin hout x93 hown v93c hv17 HX HZ HNn HGn;subst ha;simp only[putAll,List.setIfInBounds_toArray,List.set_cons_succ,List.set_cons_zero,Act.put];go_wp2_with fail
        go_roundw
        case rel=>exact ⟨k+1,by omega,by go_num,HO3,HC4⟩
        case measure=>(simp[intOf]<;>omega)
      ·obtain rfl:N=k:=by omega
       obtain ⟨B2,b2,rfl,hqc,hcm⟩:=own_slice hO.out;have hB:Hid (RwOK wr 4 ⟨B2,g.ns.length,b2,boolsV (lfL m cs g.ns x)⟩):=by
        have h:=RwOK.own hO.out;rw[List.take_of_length_le (by rw[hll.out];exact Nat.le_refl _)] at h;show RwOK _ _ _;rw[<-hN.out];exact h
       have hRk:=zI (hR.out.later hC.out);have hOw:Hid (wr.ownsRow wo.heap.size 47 1 u15 i (R2.flatMap rwC)):=by show World.ownsRow _ _ _ _ _ _ _;have:=hRk.out.own;rwa [hX.out.1] at this
       have hX3:=zI (hX2.out B2 b2);clear hqc hcm hX2;go_wp2_with (at_builtin;refine wpList_append_own _ rfl (.tmp 94) (.tmp 96) 97 rfl wo.heap.size 47 i4 _ 1 24 Tryz.underlying97 hi4 z40 z41 z42 rfl (by omega) u15 i (R2.flatMap rwC) rfl (by exact hOw.out.alloc _) ⟨wr.heap.size,0,none⟩ 1 1 [.slice B2 N b2] rfl rfl (by exact all_new (Blk.new wr 47 #[.slice B2 N b2])) (by intro u hu;simp at hu;subst hu;rfl) (by unfold maxLen;omega) (by omega) (by have:=hRk.out.chg.size;simp;omega) ?_;intro v' w5 hown3 hg3 hat3;have HR3:=zI (Rws.more hRk.out (by decide) hB.out (by rw[hX.out.1];show World.ownsRow _ _ _ _ _ _ (_++[Value.slice B2 g.ns.length b2]);rw[<-hN.out];exact hown3) hg3);clear hown3 hg3 hat3)
       go_roundw
       case rel=>exact ⟨i+1,_,by omega,by go_num,hX3,HR3⟩
       case measure=>(simp[intOf]<;>omega)
    ·obtain rfl:i=prop.length:=by omega
     have hRo:=hR.out.own;rw[hX.out.1] at hRo;obtain ⟨B2,b2,rfl,hqc,hcm⟩:=own_slice hRo;have hLf:Hid (LfOK wp B2 (rowsB m cs g.ns prop R2) g.ns.length):=rowsB_ok hX.out hR.out;have hLD:Hid (lfD (rowsB m cs g.ns prop R2)=lfAll m cs g.ns prop):=rowsB_lf m cs g.ns prop R2 hX.out;have hlen:(rowsI g.es R).length=N:=by rw[(rowsI_flat g.es R hRl.out).1,heN.out]
     have hlenB:=(rowsB_flat m cs g.ns prop R2 hX.out).1;have Cw:=zI (Ct C0.out Cp.out);have HA:=(at_any (shp prop) (rowsI g.es R) (rowsB m cs g.ns prop R2) (by rw[shp_len];exact hl) (by rw[shp_len,hlenB];exact Nat.le_refl _) (by rw[hlen,hN.out];exact h0) Ai B B2 ci b b2 t 0 p hwf.out (by rw[shp_len,hp.out];omega) wp (RI.out.later (Ct (Ct (Chg.refl _ w2) hRc.out) hR.out.chg) (fun _ h=>h.elim)) (hNx.out.later hR.out.chg) (by rw[hlen,hN.out];exact hLf.out)).2;rw[hlenB,shp_len,hlen,valA_congr (hRL.out.trans (canE_l g.es).symm),hLD.out,<-hL.out] at HA;replace HA:=zI HA;have hpw2:=hpw.out;clear hqc hcm hRo hLf hLD hlen hlenB hX hR;go_wp2_with (go_at_call 33;refine HA.out.mono ?_;rintro e w9 ⟨Bo,bo,rfl,hm9,hR9,hC9⟩;have R9:=zI hR9;have C9:=zI (Ct Cw.out hC9);clear hR9 hC9 HA)
     go_ret2
     exact ⟨Bo,bo,rfl,hm9,R9.out,C9.out⟩
end
end Go.Proofs.YthohgagkjnbkbaaGreat
