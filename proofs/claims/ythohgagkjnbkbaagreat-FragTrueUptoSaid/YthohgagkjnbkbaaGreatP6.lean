/- FragTrue, part 6: RgOps FrStatus. Each theorem says what a function does, or a plain fact, under its own premises alone. -/
import Derived.Test.YthohgagkjnbkbaaGreatP5
set_option maxRecDepth 100000
set_option maxHeartbeats 16000000
namespace Go.Proofs.YthohgagkjnbkbaaGreat
section
open Go.RowKit
theorem run_append_owned_zero {P:Program} (w:World) (base:Nat) (t ty e:TypeId) (i:TypeInfo) (size:Nat) (ht:P.underlying t=some (.slice e)) (hi:P.info? e=some i)
  (v:Value) (n:Nat) (xs:List Value) (hown:w.ownsRow base e size v n xs) (A:Option Addr) (c:Nat):
  (Builtin.append_ #[t,t] ty #[v,.slice A 0 c]).run P w=.ok v w:=by
 rcases hown.2 with ⟨rfl,rfl⟩ | ⟨g,cap,cur,rfl,_,_,hnc,_⟩
 ·cases A<;>simp[Builtin.append_,run_underlying ht,sizeOf,typeInfo,hi,Builtin.lenOf,Builtin.firstCells,loadCells,loadCellsFrom,Result.andThen]
 ·cases A<;>simp[Builtin.append_,run_underlying ht,sizeOf,typeInfo,hi,Builtin.lenOf,Builtin.firstCells,hnc,storeCells,loadCells,loadCellsFrom,Result.andThen]
theorem run_copy {P:Program} (w:World) (base:Nat) (t ty e:TypeId) (i:TypeInfo) (z:Value) (size bytes:Nat) (ht:P.underlying t=some (.slice e)) (hi:P.info? e=some i) (hz:i.zero=some z)
  (hsize:i.size=size) (hby:i.bytes=bytes) (hzs:z.cells.size=size) (hsz:0 < size)
  (v:Value) (n:Nat) (xs:List Value) (hown:w.ownsRow base e size v n xs) (A:Option Addr) (m c B:Nat) (news:List Value) (hl:news.length=m * size) (hR:Rd w B A news) (h1:∀ u ∈ news,u.oneCell'=true)
  (h63:n+m<=maxLen) (hbytes:(n+m) * bytes<=140737488355328) (hbase:base<=w.heap.size):
  ∃ v' w',(Builtin.append_ #[t,t] ty #[v,.slice A m c]).run P w=.ok v' w'/\w'.ownsRow base e size v' (n+m) (xs++news)/\w.grownBy w' v.ownBlock:=by
 rcases Nat.eq_zero_or_pos m with rfl | hm
 ·have hn:news=[]:=List.eq_nil_of_length_eq_zero (by rw[hl,Nat.zero_mul]);subst hn;exact ⟨v,w,run_append_owned_zero w base t ty e i size ht hi v n xs hown A c,by rw[List.append_nil];exact hown,⟨rfl,rfl,rfl,Nat.le_refl _,fun _ _ _=>rfl⟩⟩
 ·obtain ⟨ad,rfl,_,hc⟩:=hR (by rw[hl];exact Nat.mul_pos hm hsz);obtain ⟨g,cap,w',hr,h2,h3,_,_⟩:=run_append_lies (P:=P) (w:=w) t ty base e i z size bytes ht hi hz hsize hby hzs hsz v n xs hown ad m c news hl hc h1 hm h63 hbytes hbase _ rfl;exact ⟨_,w',hr,h2,h3⟩
theorem run_fresh0 {P:Program} (w:World) (t ty e:TypeId) (i:TypeInfo) (z:Value) (size bytes:Nat) (ht:P.underlying t=some (.slice e)) (hi:P.info? e=some i) (hz:i.zero=some z)
  (hsize:i.size=size) (hby:i.bytes=bytes) (hzs:z.cells.size=size) (hsz:0 < size)
  (g:Nat) (A:Option Addr) (m c B:Nat) (news:List Value) (hl:news.length=m * size) (hR:Rd w B A news)
  (h63:m<=maxLen) (hbytes:m * bytes<=140737488355328):
  ∃ A' c' w',(Builtin.append_ #[t,t] ty #[.slice (some ⟨g,0,none⟩) 0 0,.slice A m c]).run P w=.ok (.slice A' m c') w'/\Rd w' w'.heap.size A' news/\Chg (fun _=>False) w w'/\c'<=maxLen/\m<=c'/\(∀ ad,A'=some ad->0 < m->w.heap.size<=ad.block):=by
 rcases Nat.eq_zero_or_pos m with rfl | hm
 ·have hn:news=[]:=List.eq_nil_of_length_eq_zero (by rw[hl,Nat.zero_mul]);subst hn;refine ⟨some ⟨g,0,none⟩,0,w,?_,fun h=>by simp at h,Chg.refl _ _,Nat.zero_le _,Nat.le_refl _,fun _ _ h=>by omega⟩;cases A<;>simp[Builtin.append_,run_underlying ht,sizeOf,typeInfo,hi,Builtin.lenOf,Builtin.firstCells,loadCells,loadCellsFrom,Result.andThen,storeCells]
 ·obtain ⟨ad,rfl,_,hc⟩:=hR (by rw[hl];exact Nat.mul_pos hm hsz);subst hsize;subst hby;have hsmall:m<=9223372036854775807:=by simp only[maxLen] at h63;omega
  have hr:=run_append_grow (P:=P) w t ty e i z ht hi hz ⟨g,0,none⟩ 0 0 [] (by simp) (fun j v h=>by simp at h) ad m c news hl hc (by omega) (by omega) (growslice_fits (by omega) (by rw[Nat.zero_add];exact hbytes));rw[Nat.zero_add] at hr;refine ⟨_,_,_,hr,fun _=>⟨_,rfl,by simp,fun j u hu=>?_⟩,((Chg.refl _ w).drew).alloc _,grownCap_le_maxLen w m 0 e h63,grownCap_ge w m 0 e,fun ad h _=>by injection h with h;subst h;exact Nat.le_refl _⟩;rw[add_row,Nat.zero_add,cell_of_row _ w.heap.size j _ e (0,0) (heap_alloc_new w.drew _)];have hj:=(List.getElem?_eq_some_iff.1 hu).1;simp only[List.size_toArray,Array.getElem?_append,Array.size_append,List.length_nil,Nat.zero_add,Nat.sub_zero];simp[hj];simpa [hj] using hu
theorem run_lit0 {P:Program} {w:World} {a:Act} {o:Oper} {t e:TypeId} (h:o.op=.buildSlice t 0 #[]) (ht:P.underlying t=some (.slice e)) {i:TypeInfo} (hi:P.info? e=some i):(execOp a.eval o).run P w=.ok (.value (.slice (some ⟨w.heap.size,0,none⟩) 0 0)) (w.alloc (.cells #[] e)):=by
 simp[execOp,h,go_sem,Result.andThen,run_underlying ht,hi,sizeOf,typeInfo]
theorem Rd.far {S:Nat->Prop} {w w':World} {B:Nat} {A:Option Addr} {xs:List Value} (h:Rd w B A xs) (hc:Chg S w w') (hB:B<=w.heap.size) (hn:∀ ad,A=some ad->0 < xs.length->¬ S ad.block):Rd w' w'.heap.size A xs:=fun hl=>by
 obtain ⟨ad,e,hb,hcell⟩:=h hl;have:=hc.size;exact ⟨ad,e,by omega,fun j u hu=>(hc.cell (by rw[block_of_add];omega) (by rw[block_of_add];exact hn ad e hl)).trans (hcell j u hu)⟩
theorem run_app {P:Program} {a:Act} {o:Oper} {w w':World} {s x:Nat} {t:TypeId} {v u r:Value} (ho:o.op=.call { callee:=.builtin .append,args:=#[.tmp s,.tmp x],argTypes:=#[t,t] })
  (hs:(a.tmps[s]?).getD undef=v) (hx:(a.tmps[x]?).getD undef=u) (hr:(Builtin.append_ #[t,t] o.type #[v,u]).run P w=.ok r w'):(execOp a.eval o).run P w=.ok (.value r) w':=by
 have hs':a.eval (.tmp s)=v:=by rw[<-hs];simp[Act.eval]
 have hx':a.eval (.tmp x)=u:=by rw[<-hx];simp[Act.eval]
 unfold execOp;simp only[ho,resolve,invoke,builtin,Sem.run_bind,Sem.run_pure,Result.andThen_ok,List.map_toArray,List.map_cons,List.map_nil,hs',hx',hr]
theorem run_stS {a:Act} {w:World} {p x z:Nat} {c0 c1 c2 c3 c4:Value} (s:SC) (hp:(a.tmps[p]?).getD undef=.pointer (some ⟨z,0,none⟩)) (hx:(a.tmps[x]?).getD undef=.agg (sA s)) (hb:Blk w z 134 #[c0,c1,c2,c3,c4]):
  ∃ w',(∀ o:Oper,o.op=.store 134 (.tmp p) (.tmp x)->(execOp a.eval o).run Tryz.prog w=.ok .skip w')/\Blk w' z 134 (sA s)/\Chg (fun k=>k=z) w w':=by
 unfold sA at hx |-;have e0:=hb.cell 0;have e1:=hb.cell 1;have e2:=hb.cell 2;have e3:=hb.cell 3;have e4:=hb.cell 4;simp only[List.getElem?_toArray,List.getElem?_cons_zero,List.getElem?_cons_succ] at e0 e1 e2 e3 e4;have g0:=hb.frozen 0;have g1:=hb.frozen 1;have g2:=hb.frozen 2;have g3:=hb.frozen 3;have g4:=hb.frozen 4;refine ⟨_,fun o h=>by simp[execOp,h,hp,hx,go_sem,Result.andThen,e0,e1,e2,e3,e4,g0,g1,g2,g3,g4];rfl,?_,?_⟩
 ·have h:=((((hb.set 0 (.slice s.aV s.nV s.cV)).set 1 (.int .i64 s.op)).set 2 (.int .i64 s.dn)).set 3 (.slice s.aD s.did.length s.cD)).set 4 (.slice s.aC s.cnt.length s.cC);simpa using h
 ·have c:=Chg.refl (fun k=>k=z) w;exact ((((c.setCell (p:=⟨z,0,none⟩) (.inl rfl) _).setCell (p:=⟨z,1,none⟩) (.inl rfl) _).setCell (p:=⟨z,2,none⟩) (.inl rfl) _).setCell (p:=⟨z,3,none⟩) (.inl rfl) _).setCell (p:=⟨z,4,none⟩) (.inl rfl) _
structure NC where
 z:ZC
 op:Int
 dn:Int
 aD:Option Addr
 did:List Int
 cD:Nat
 aC:Option Addr
 cnt:List Int
 cC:Nat
def nC (n:NC):List Value:=[.slice n.z.cA n.z.cl.length n.z.cC,.slice n.z.gA n.z.gl.length n.z.gC,.int .i64 n.op,.int .i64 n.dn,.slice n.aD n.did.length n.cD,.slice n.aC n.cnt.length n.cC]
def nA (n:NC):Array Value:=#[.slice n.z.cA n.z.cl.length n.z.cC,.slice n.z.gA n.z.gl.length n.z.gC,.int .i64 n.op,.int .i64 n.dn,.slice n.aD n.did.length n.cD,.slice n.aC n.cnt.length n.cC]
structure NOK (w:World) (n:NC):Prop where
 z:ZOK w n.z
 did:Rd w w.heap.size n.aD (intsV n.did)
 cnt:Rd w w.heap.size n.aC (intsV n.cnt)
 few:n.did.length<=100000/\n.cnt.length<=100000
 opR:inR n.op
 dnR:inR n.dn
 didR:∀ x ∈ n.did,inR x
 cntR:∀ x ∈ n.cnt,inR x
theorem NOK.later {w w':World} {n:NC} (h:NOK w n) (hc:Chg (fun _=>False) w w'):NOK w' n:=
 ⟨h.z.later hc,h.did.later hc (fun _ h=>h.elim),h.cnt.later hc (fun _ h=>h.elim),h.few,h.opR,h.dnR,h.didR,h.cntR⟩
theorem flat_inC (l:List Int):l.flatMap inC=intsV l:=by
 induction l with
 | nil=>rfl
 | cons x l ih=>rw[List.flatMap_cons,ih];rfl
structure SOK (w:World) (s:SC):Prop where
 did:Rd w w.heap.size s.aD (intsV s.did)
 cnt:Rd w w.heap.size s.aC (intsV s.cnt)
 few:s.nV<=100000/\s.did.length<=100000/\s.cnt.length<=100000
 opR:inR s.op
 dnR:inR s.dn
 didR:∀ x ∈ s.did,inR x
 cntR:∀ x ∈ s.cnt,inR x
theorem SOK.later {w w':World} {s:SC} (h:SOK w s) (hc:Chg (fun _=>False) w w'):SOK w' s:=
 ⟨h.did.later hc (fun _ h=>h.elim),h.cnt.later hc (fun _ h=>h.elim),h.few,h.opR,h.dnR,h.didR,h.cntR⟩
def CpI (B:Nat) (l:List Int) (v:Value) (w:World):Prop:=∃ A c,v=.slice A l.length c/\Rd w w.heap.size A (intsV l)/\c<=maxLen/\l.length<=c/\∀ ad,A=some ad->0 < l.length->B<=ad.block
theorem ncells {w:World} {g:Nat} {n:NC} (h:Blk w g 90 (nA n)):w.cell? ⟨g,0,none⟩=some (.slice n.z.cA n.z.cl.length n.z.cC)/\w.cell? ⟨g,1,none⟩=some (.slice n.z.gA n.z.gl.length n.z.gC)/\w.cell? ⟨g,2,none⟩=some (.int .i64 n.op)/\w.cell? ⟨g,3,none⟩=some (.int .i64 n.dn)/\w.cell? ⟨g,4,none⟩=some (.slice n.aD n.did.length n.cD)/\w.cell? ⟨g,5,none⟩=some (.slice n.aC n.cnt.length n.cC):=by
 refine ⟨?_,?_,?_,?_,?_,?_⟩<;>rw[h.cell]<;>rfl
theorem status_any (w:World) (n:NC) (h:NOK w n):Calls Tryz.prog 53 #[.agg (nA n)] w fun e w'=>(∃ s:SC,e=.returned (.agg (sA s))/\SOK w' s/\s.nV=0/\s.op=n.op/\s.dn=n.dn/\s.did=n.did/\s.cnt=n.cnt)/\Chg (fun _=>False) w w':=by
 obtain ⟨i,hi,hz0,hz1,hz2⟩:=info_3 int_info;obtain ⟨h1,h2⟩:=cells2 w 90 134 (nA n) #[.slice none 0 0,.int .i64 0,.int .i64 0,.slice none 0 0,.slice none 0 0];have C1:=zI (chg2 w (.cells (nA n) 90) (.cells #[.slice none 0 0,.int .i64 0,.int .i64 0,.slice none 0 0,.slice none 0 0] 134));obtain ⟨w1,hw1⟩:∃ w1,w1=((w.alloc (.cells (nA n) 90)).alloc (.cells #[.slice none 0 0,.int .i64 0,.int .i64 0,.slice none 0 0,.slice none 0 0] 134)):=⟨_,rfl⟩;rw[<-hw1] at C1 h1 h2;have HN:=zI (fun (w':World) (hc:Chg (fun _=>False) w1 w')=>ncells (h1.chg hc (fun h=>h)));have HR:=zI (show Rd w1 w1.heap.size n.aD (intsV n.did)/\Rd w1 w1.heap.size n.aC (intsV n.cnt) from ⟨(h.later C1.out).did,(h.later C1.out).cnt⟩);have H2:=zI (fun (w':World) (hc:Chg (fun _=>False) w1 w')=>h2.chg hc (fun h=>h));obtain ⟨l1,l2⟩:=h.few;replace h:=zI h;unfold nA at hw1 |-;clear h1 h2;go_enter Tryz.func53,Tryz.ntmps53;go_wp2_with fail
 rw[<-hw1];clear hw1;refine region_spk (by kernel_rfl) [some 3,some 4,some 5,some 6,some 7,some 8,some 9,some 10,some 11,some 12,some 13,some 14,some 15,none] [3,4,5,6,7,8,9,10,11,12,13,14,15] [.is (.pointer (some ⟨w.heap.size,2,none⟩)),.is (.int .i64 n.op),.is (.pointer (some ⟨w.heap.size,3,none⟩)),.is (.int .i64 n.dn),.su (fun v _=>∃ g,v=.slice (some ⟨g,0,none⟩) 0 0),.is (.pointer (some ⟨w.heap.size,4,none⟩)),.is (.slice n.aD n.did.length n.cD),.su (CpI w1.heap.size n.did),.su (fun v _=>∃ g,v=.slice (some ⟨g,0,none⟩) 0 0),.is (.pointer (some ⟨w.heap.size,5,none⟩)),.is (.slice n.aC n.cnt.length n.cC),.su (CpI w1.heap.size n.cnt),.su (fun v w'=>∃ A c A' c',v=.agg #[.slice none 0 0,.int .i64 n.op,.int .i64 n.dn,.slice A n.did.length c,.slice A' n.cnt.length c']/\Rd w' w'.heap.size A (intsV n.did)/\Rd w' w'.heap.size A' (intsV n.cnt)/\(∀ ad,A=some ad->0 < n.did.length->w1.heap.size<=ad.block)/\(∀ ad,A'=some ad->0 < n.cnt.length->w1.heap.size<=ad.block)),.is undef] 13 (by kernel_rfl) (by kernel_rfl) (by kernel_rfl) (by kernel_rfl) ?_ ?_
 ·refine ⟨?_,?_,?_,?_,?_,?_,?_,?_,?_,?_,?_,?_,?_,trivial⟩
  ·intro f a wz _ hout _ _;have x1:(a.tmps[1]?).getD undef=.pointer (some ⟨w.heap.size,0,none⟩):=hout 1 (by rfl);exact st_is rfl rfl (by simp[execOp,go_sem,Result.andThen,x1]) rfl (by simp)
  ·intro f a wz hin _ hC hd;have x3:(a.tmps[3]?).getD undef=.pointer (some ⟨w.heap.size,2,none⟩):=(hin 3 (by rfl)).trans (hd 0 (by kernel_rfl));exact st_is rfl rfl (by simp[execOp,go_sem,Result.andThen,x3,(HN.out wz hC).2.2.1]) rfl (by simp)
  ·intro f a wz _ hout _ _;have x1:(a.tmps[1]?).getD undef=.pointer (some ⟨w.heap.size,0,none⟩):=hout 1 (by rfl);exact st_is rfl rfl (by simp[execOp,go_sem,Result.andThen,x1]) rfl (by simp)
  ·intro f a wz hin _ hC hd;have x5:(a.tmps[5]?).getD undef=.pointer (some ⟨w.heap.size,3,none⟩):=(hin 5 (by rfl)).trans (hd 2 (by kernel_rfl));exact st_is rfl rfl (by simp[execOp,go_sem,Result.andThen,x5,(HN.out wz hC).2.2.2.1]) rfl (by simp)
  ·intro f a wz _ _ _ _;exact st_su rfl rfl (run_lit0 rfl Tryz.underlying52 hi) rfl ⟨_,rfl⟩ ((Chg.refl _ _).alloc _) (by simp)
  ·intro f a wz _ hout _ _;have x1:(a.tmps[1]?).getD undef=.pointer (some ⟨w.heap.size,0,none⟩):=hout 1 (by rfl);exact st_is rfl rfl (by simp[execOp,go_sem,Result.andThen,x1]) rfl (by simp)
  ·intro f a wz hin _ hC hd;have x8:(a.tmps[8]?).getD undef=.pointer (some ⟨w.heap.size,4,none⟩):=(hin 8 (by rfl)).trans (hd 5 (by kernel_rfl));exact st_is rfl rfl (by simp[execOp,go_sem,Result.andThen,x8,(HN.out wz hC).2.2.2.2.1]) rfl (by simp)
  ·intro f a wz hin _ hC hd;obtain ⟨v7w,v7c,v7p⟩:=hd 4 (by kernel_rfl);have x7:=hin 7 (by rfl);have x9:(a.tmps[9]?).getD undef=.slice n.aD n.did.length n.cD:=(hin 9 (by rfl)).trans (hd 6 (by kernel_rfl));obtain ⟨g,v7p⟩:=v7p;obtain ⟨A',c',w',hr,h1,h2,h3,h4,h5⟩:=run_fresh0 (P:=Tryz.prog) wz 52 52 3 i _ 1 8 Tryz.underlying52 hi hz0 hz1 hz2 rfl (by omega) g n.aD n.did.length n.cD wz.heap.size (intsV n.did) (by simp[intsV]) (HR.out.1.later hC (fun _ h=>h.elim)) (by unfold maxLen;omega) (by omega);exact st_su rfl rfl (run_app rfl (x7.trans v7p) x9 hr) rfl ⟨A',c',rfl,h1,h3,h4,fun ad h hm=>Nat.le_trans hC.size (h5 ad h hm)⟩ h2 (by simp)
  ·intro f a wz _ _ _ _;exact st_su rfl rfl (run_lit0 rfl Tryz.underlying52 hi) rfl ⟨_,rfl⟩ ((Chg.refl _ _).alloc _) (by simp)
  ·intro f a wz _ hout _ _;have x1:(a.tmps[1]?).getD undef=.pointer (some ⟨w.heap.size,0,none⟩):=hout 1 (by rfl);exact st_is rfl rfl (by simp[execOp,go_sem,Result.andThen,x1]) rfl (by simp)
  ·intro f a wz hin _ hC hd;have x12:(a.tmps[12]?).getD undef=.pointer (some ⟨w.heap.size,5,none⟩):=(hin 12 (by rfl)).trans (hd 9 (by kernel_rfl));exact st_is rfl rfl (by simp[execOp,go_sem,Result.andThen,x12,(HN.out wz hC).2.2.2.2.2]) rfl (by simp)
  ·intro f a wz hin _ hC hd;obtain ⟨v11w,v11c,v11p⟩:=hd 8 (by kernel_rfl);have x11:=hin 11 (by rfl);have x13:(a.tmps[13]?).getD undef=.slice n.aC n.cnt.length n.cC:=(hin 13 (by rfl)).trans (hd 10 (by kernel_rfl));obtain ⟨g,v11p⟩:=v11p;obtain ⟨A',c',w',hr,h1,h2,h3,h4,h5⟩:=run_fresh0 (P:=Tryz.prog) wz 52 52 3 i _ 1 8 Tryz.underlying52 hi hz0 hz1 hz2 rfl (by omega) g n.aC n.cnt.length n.cC wz.heap.size (intsV n.cnt) (by simp[intsV]) (HR.out.2.later hC (fun _ h=>h.elim)) (by unfold maxLen;omega) (by omega);exact st_su rfl rfl (run_app rfl (x11.trans v11p) x13 hr) rfl ⟨A',c',rfl,h1,h3,h4,fun ad h hm=>Nat.le_trans hC.size (h5 ad h hm)⟩ h2 (by simp)
  ·intro f a wz hin _ _ hd;have x4:(a.tmps[4]?).getD undef=.int .i64 n.op:=(hin 4 (by rfl)).trans (hd 1 (by kernel_rfl));have x6:(a.tmps[6]?).getD undef=.int .i64 n.dn:=(hin 6 (by rfl)).trans (hd 3 (by kernel_rfl));obtain ⟨v10w,v10c,v10p⟩:=hd 7 (by kernel_rfl);have x10:=hin 10 (by rfl);obtain ⟨v14w,v14c,v14p⟩:=hd 11 (by kernel_rfl);have x14:=hin 14 (by rfl);obtain ⟨A1,c1,v10p,q1,_,_,n1⟩:=v10p;obtain ⟨A2,c2,v14p,q2,_,_,n2⟩:=v14p;replace x10:=x10.trans v10p;replace x14:=x14.trans v14p;exact st_su rfl rfl (by simp[execOp,go_sem,Result.andThen,x4,x6,x10,x14]) rfl ⟨A1,c1,A2,c2,rfl,q1.later v10c (fun _ h=>h.elim),q2.later v14c (fun _ h=>h.elim),n1,n2⟩ (Chg.refl _ _) (by simp)
 ·intro f a wz ha hin hout hC hd;obtain ⟨v15w,v15c,A1,c1,A2,c2,e15,q1,q2,n1,n2⟩:=hd 12 (by omega);have x15:=(hin 15 (by rfl)).trans e15;have x2:(a.tmps[2]?).getD undef=.pointer (some ⟨w.heap.size+1,0,none⟩):=hout 2 (by rfl);obtain ⟨w2,hr,hb,hc⟩:=run_stS ⟨none,0,0,n.op,n.dn,A1,n.did,c1,A2,n.cnt,c2⟩ x2 x15 (H2.out wz hC);refine wpOp_skip0 rfl rfl (hr _ rfl) rfl ?_;obtain ⟨s,hs⟩:∃ s:SC,s=⟨none,0,0,n.op,n.dn,A1,n.did,c1,A2,n.cnt,c2⟩:=⟨_,rfl⟩;rw[<-hs] at hb;have lz:w.heap.size+1 < w1.heap.size:=(H2.out w1 (Chg.refl _ _)).lt;have hS:Hid (SOK w2 s):=by
   rw[hs];exact ⟨(q1.later v15c (fun _ h=>h.elim)).far hc (Nat.le_refl _) (fun ad e hl he=>by have:=n1 ad e (by simpa [intsV] using hl);omega),(q2.later v15c (fun _ h=>h.elim)).far hc (Nat.le_refl _) (fun ad e hl he=>by have:=n2 ad e (by simpa [intsV] using hl);omega),⟨Nat.zero_le _,l1,l2⟩,h.out.opR,h.out.dnR,h.out.didR,h.out.cntR⟩
  have C2:Hid (Chg (fun _=>False) w w2):=Chg.trans (Ct C1.out hC) hc (fun i hi e=>by omega);replace hb:=zI hb;replace hs:=zI hs;clear hd hr hc q1 q2 n1 n2 e15 v15c hin hout x15 x2 HN HR H2 hC lz h C1 l1 l2;subst ha;simp only[putAll,List.setIfInBounds_toArray,List.set_cons_succ,List.set_cons_zero];go_wp2
  exact bodyPost_ret (results_cell_row rfl _ _ _ _ _ _ _ rfl hb.out Tryz.underlying134 rfl (by kernel_rfl)) rfl ⟨⟨s,rfl,hS.out,by rw[hs.out],by rw[hs.out],by rw[hs.out],by rw[hs.out],by rw[hs.out]⟩,C2.out⟩
end
end Go.Proofs.YthohgagkjnbkbaaGreat
