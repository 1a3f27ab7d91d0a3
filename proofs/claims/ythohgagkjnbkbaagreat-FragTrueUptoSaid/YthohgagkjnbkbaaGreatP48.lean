/- FragTrue, part 48: FrZt RgRank2. Each theorem says what a function does, or a plain fact, under its own premises alone. -/
import Derived.Test.YthohgagkjnbkbaaGreatP47
set_option maxRecDepth 100000
set_option maxHeartbeats 16000000
namespace Go.Proofs.YthohgagkjnbkbaaGreat
section
open Go.RowKit
def Tex (t:TypeId):Bool:=t ==44 || t ==90
theorem nC_one (n:NC):∀ v ∈ nC n,v.oneCell'=true:=by
 intro v hv;simp[nC] at hv;rcases hv with rfl | rfl | rfl | rfl | rfl | rfl<;>rfl
theorem edC_one (x:Int × Int × Int):∀ v ∈ edC x,v.oneCell'=true:=by
 intro v hv;simp[edC] at hv;rcases hv with rfl | rfl | rfl<;>rfl
theorem edCs_len (l:List (Int × Int × Int)):(l.flatMap edC).length=l.length * 3:=by
 induction l with
 | nil=>rfl
 | cons z l ih=>rw[List.flatMap_cons,List.length_append,ih,List.length_cons];simp[edC];omega
theorem edge_info:(Tryz.prog.info? 55).map (fun i=>(i.zero,i.size,i.bytes))=some (some (.agg #[.int .i64 0,.int .i64 0,.int .i64 0]),3,24):=by kernel_rfl
theorem erow_info:(Tryz.prog.info? 53).map (fun i=>(i.zero,i.size,i.bytes))=some (some (.slice none 0 0),1,24):=by kernel_rfl
theorem run_lit3 {P:Program} {w:World} {a:Act} {t e:TypeId} {x:Nat} {p q r:Int} (ht:P.underlying t=some (.slice e)) {i:TypeInfo} (hi:P.info? e=some i) (hs:i.size=3) (hz:i.zero=some (.agg #[.int .i64 0,.int .i64 0,.int .i64 0])) (hx:(a.tmps[x]?).getD undef=.agg #[.int .i64 p,.int .i64 q,.int .i64 r]):∀ o:Oper,o.op=.buildSlice t 1 #[(0,.tmp x)]->(execOp a.eval o).run P w=.ok (.value (.slice (some ⟨w.heap.size,0,none⟩) 1 1)) (w.alloc (.cells #[.int .i64 p,.int .i64 q,.int .i64 r] e)):=by
 intro o h;simp[execOp,h,go_sem,Result.andThen,run_underlying ht,hi,sizeOf,typeInfo,hs,hz,hx,zeroValue]
theorem run_litN {P:Program} {w:World} {a:Act} {t e:TypeId} {x:Nat} {n:NC} (ht:P.underlying t=some (.slice e)) {i:TypeInfo} (hi:P.info? e=some i) (hs:i.size=6) (hz:i.zero=some (.agg #[.slice none 0 0,.slice none 0 0,.int .i64 0,.int .i64 0,.slice none 0 0,.slice none 0 0])) (hx:(a.tmps[x]?).getD undef=.agg (nA n)):∀ o:Oper,o.op=.buildSlice t 1 #[(0,.tmp x)]->(execOp a.eval o).run P w=.ok (.value (.slice (some ⟨w.heap.size,0,none⟩) 1 1)) (w.alloc (.cells (nA n) e)):=by
 intro o h;simp[execOp,h,go_sem,Result.andThen,run_underlying ht,hi,sizeOf,typeInfo,hs,hz,hx,zeroValue,nA]
theorem run_edge {w:World} {a:Act} {x y z:Nat} {p q r:Int} (hx:(a.tmps[x]?).getD undef=.int .i64 p) (hy:(a.tmps[y]?).getD undef=.int .i64 q) (hz:(a.tmps[z]?).getD undef=.int .i64 r):∀ o:Oper,o.op=.build 55 #[(0,.tmp x),(1,.tmp y),(2,.tmp z)]->(execOp a.eval o).run Tryz.prog w=.ok (.value (.agg #[.int .i64 p,.int .i64 q,.int .i64 r])) w:=by
 intro o h;simp[execOp,h,go_sem,Result.andThen,hx,hy,hz]
structure ExN (w0 w:World) (gb:Nat) (vN vE:Value) (ns:List NC) (es:List RowE):Prop where
 blk:Blk w gb 44 #[vN,vE]
 oN:w.ownsRow w0.heap.size 90 6 vN ns.length (ns.flatMap nC)
 oE:w.ownsRow w0.heap.size 53 1 vE es.length (es.flatMap rowEC)
 ns:∀ n ∈ ns,NT w n
 chg:Chg (fun _=>False) w0 w
 lt:w0.heap.size<=gb
section
variable {w0 w w':World} {gb:Nat} {vN vE:Value} {ns:List NC} {es:List RowE}
theorem ExN.cells (h:ExN w0 w gb vN vE ns es):w.cell? ⟨gb,0,none⟩=some vN/\w.cell? ⟨gb,1,none⟩=some vE/\∀ i,w.frozen? ⟨gb,i,none⟩=false:=⟨by rw[h.blk.cell];rfl,by rw[h.blk.cell];rfl,h.blk.frozen⟩
theorem ExN.far {S:Nat->Prop} (h:ExN w0 w gb vN vE ns es) (hc:Chg S w w') (hS:∀ k,S k->k < w.heap.size->w0.heap.size<=k/\∃ t cur,Blk w k t cur/\t ≠ 44/\t ≠ 90/\t ≠ 53/\t ≠ 194/\t ≠ 3):ExN w0 w' gb vN vE ns es:=by
 have key:∀ k t cur,Blk w k t cur->(t=44\/t=90\/t=53)->¬ S k:=fun k t cur hb ht hs=>by
  obtain ⟨_,t',cur',hb',h1,h2,h3,_⟩:=hS k hs hb.lt;have:=blk_ty hb hb';subst this;rcases ht with e | e | e
  ·exact h1 e
  ·exact h2 e
  ·exact h3 e
 refine ⟨h.blk.chg hc (key gb 44 _ h.blk (.inl rfl)),own_chg h.oN hc (fun g hg=>?_),own_chg h.oE hc (fun g hg=>?_),fun n hn=>(h.ns n hn).far hc (fun k hk hl=>let ⟨_,t,cur,hb,_,_,_,h4,h5⟩:=hS k hk hl;⟨t,cur,hb,h4,h5⟩),Chg.trans h.chg hc (fun i hi hs=>?_),h.lt⟩
 ·obtain ⟨cur,hb⟩:=own_blk h.oN hg;exact key g 90 _ hb (.inr (.inl rfl))
 ·obtain ⟨cur,hb⟩:=own_blk h.oE hg;exact key g 53 _ hb (.inr (.inr rfl))
 ·have:=(hS i hs (Nat.lt_of_lt_of_le hi h.chg.size)).1;omega
theorem ExN.later (h:ExN w0 w gb vN vE ns es) (hc:Chg (fun _=>False) w w'):ExN w0 w' gb vN vE ns es:=h.far hc (fun _ h=>h.elim)
theorem ExN.node {wz:World} {x:NC} {v':Value} (h:ExN w0 w gb vN vE ns es) (hx:NT w x) (hc:Chg (fun k=>vN.ownBlock=some k) w wz) (ho:wz.ownsRow w0.heap.size 90 6 v' (ns.length+1) (ns.flatMap nC++nC x)):ExN w0 (wz.setCell ⟨gb,0,none⟩ v') gb v' vE (ns++[x]) es:=by
 have hb:=h.blk.chg hc (own_blk_ne h.oN h.blk (by decide));have hE:=own_chg h.oE hc (fun g hg e=>own_own_ne h.oN h.oE (by decide) g e hg);have hN:∀ n,NT w n->NT (wz.setCell ⟨gb,0,none⟩ v') n:=fun n hn=>by
  have h1:=hn.far hc (fun k hk _=>let ⟨cur,hb⟩:=own_blk h.oN hk;⟨90,cur,hb,by decide,by decide⟩);exact h1.far ((Chg.refl (fun k=>k=gb) wz).setCell (p:=⟨gb,0,none⟩) (.inl rfl) v') (fun k hk _=>⟨44,_,hk ▸ hb,by decide,by decide⟩)
 refine ⟨by simpa using hb.set 0 v',own_set (by rw[List.length_append,List.flatMap_append];simpa using ho) (own_blk_ne ho hb (by decide)) _,own_set hE (own_blk_ne hE hb (by decide)) _,fun n hn=>?_,?_,h.lt⟩
 ·rcases List.mem_append.1 hn with hn | hn
  ·exact hN n (h.ns n hn)
  ·rw[List.mem_singleton.1 hn];exact hN x hx
 ·exact (Chg.trans h.chg hc (fun i hi e=>by have:=(h.oN.lt i e).1;omega)).setCell (.inr h.lt) _
theorem ExN.row {wz:World} {r:RowE} {v':Value} (h:ExN w0 w gb vN vE ns es) (hg:w.grownBy wz vE.ownBlock) (ho:wz.ownsRow w0.heap.size 53 1 v' (es.length+1) (es.flatMap rowEC++rowEC r)):ExN w0 (wz.setCell ⟨gb,1,none⟩ v') gb vN v' ns (es++[r]):=by
 have hc:Chg (fun k=>vE.ownBlock=some k) w wz:=Chg.grown (Chg.refl _ w) hg (fun _ hk=>.inl hk);have hb:=h.blk.chg hc (own_blk_ne h.oE h.blk (by decide));have hE:=own_chg h.oN hc (fun g hg e=>own_own_ne h.oE h.oN (by decide) g e hg);refine ⟨by simpa using hb.set 1 v',own_set hE (own_blk_ne hE hb (by decide)) _,own_set (by rw[List.length_append,List.flatMap_append];simpa using ho) (own_blk_ne ho hb (by decide)) _,fun n hn=>?_,?_,h.lt⟩
 ·have h1:=(h.ns n hn).far hc (fun k hk _=>let ⟨cur,hb⟩:=own_blk h.oE hk;⟨53,cur,hb,by decide,by decide⟩);exact h1.far ((Chg.refl (fun k=>k=gb) wz).setCell (p:=⟨gb,1,none⟩) (.inl rfl) v') (fun k hk _=>⟨44,_,hk ▸ hb,by decide,by decide⟩)
 ·exact (Chg.trans h.chg hc (fun i hi e=>by have:=(h.oE.lt i e).1;omega)).setCell (.inr h.lt) _
end
def EdI (w:World) (k:Nat) (es:List RowE):Prop:=∀ r ∈ es,RdT w r.a (r.l.flatMap edC) 55/\r.l.length<=1000000000000/\∀ x ∈ r.l,0<=x.2.2/\x.2.2 < k
theorem EdI.later {w w':World} {k:Nat} {es:List RowE} (h:EdI w k es) (hc:Chg (fun _=>False) w w'):EdI w' k es:=fun r hr=>⟨(h r hr).1.later hc,(h r hr).2⟩
theorem EdI.ty {T:TypeId->Bool} {w w':World} {k:Nat} {es:List RowE} (h:EdI w k es) (hc:Chg (TyS T w) w w') (h1:T 55=false):EdI w' k es:=fun r hr=>⟨(h r hr).1.ty hc h1,(h r hr).2⟩
theorem EdI.up {w:World} {k k':Nat} {es:List RowE} (h:EdI w k es) (hk:k<=k'):EdI w k' es:=fun r hr=>⟨(h r hr).1,(h r hr).2.1,fun x hx=>by have:=(h r hr).2.2 x hx;omega⟩
structure ElI (w5 w:World) (v:Value) (el:List (Int × Int × Int)) (k i:Nat):Prop where
 own:w.ownsRow w5.heap.size 55 3 v el.length (el.flatMap edC)
 to:∀ x ∈ el,0<=x.2.2/\x.2.2 < k
 len:el.length=i
def StpsR (v:Value) (w:World):Prop:=∃ A l c,v=.slice A l.length c/\SpsT w A l/\l.length<=600000000000
theorem StpsR.later' {v:Value} {w w':World} (h:StpsR v w) (hc:Chg (fun _=>False) w w'):StpsR v w':=let ⟨A,l,c,h1,h2,h3⟩:=h;⟨A,l,c,h1,h2.later hc,h3⟩
def GrR (b:Bool) (v:Value) (w:World):Prop:=∃ g:GrC,v=.agg (grA g)/\(b=true->GOK w g/\g.es.length=g.ns.length/\0 < g.ns.length/\∀ r ∈ g.es,∀ x ∈ r.l,0<=x.2.2/\x.2.2 < g.ns.length)
section
variable {P:Program} {ops:Array Oper} {Q:Exit->Act->World->Prop} {t0:Array Value} {w0:World} {L:List (Option Nat)} {ds:List Nat} {SL:List Sp} {Z:Nat->Prop} {aq:Nat}
theorem region_mvk2R {id:Nat} (hm:P.follows .mixedOrders=true) (L:List (Option Nat)) (ds:List Nat) (SL:List Sp) (aq:Nat) (Z:Nat->Prop) (n:Nat) (hn:ops.size=n+1) (hl:rankB ops=true) (hD:dstB ops L ds t0.size=true) (hk:sinkB ops n=true)
  (steps:Each (Mv2 P ops Q L ds SL aq Z t0 w0) 0 (ops.toList.take n)) (last:∀ (f:Nat->Value) (a:Act) (w:World),a=⟨putAll t0 ds f,[]⟩->(∀ s,ds.contains s=true->(a.tmps[s]?).getD undef=f s)->(∀ s,ds.contains s=false->(a.tmps[s]?).getD undef=(t0[s]?).getD undef)->Chg Z w0 w->(∀ i,i < n->mvS aq Z SL i (atF f (L[i]?.join)) w)->wpOp P ops Q n (fun a' w'=>Q .normal a' w') a w):(Code.region id ops true).wp P Q ⟨t0,[]⟩ w0:=by
 have hst:∀ (i:Nat) o,i < n->ops[i]?=some o->Mv2 P ops Q L ds SL aq Z t0 w0 i o:=fun i o hi ho=>by
  have:=Each.get _ 0 i o steps (show (ops.toList.take n)[i]?=some o by rw[List.getElem?_take];rw[if_pos hi];simpa using ho);rwa [Nat.zero_add] at this
 refine wp_region_any hm (wpAny_invR (I:=fun listed a w=>listed.size=n+1/\Clos ops listed/\((listed.getD n false=false/\MvI ops L ds SL aq Z t0 w0 listed a w)\/((∀ j,j < n+1->listed.getD j false=true)/\Q .normal a w))) (rankB_spec hl) ?_ ?_ _ _ _ _ (by simp) ?_ ⟨by simp[hn],?_,?_⟩)
 ·rintro listed a w ⟨hsz,hcl,hI⟩ i o ho hu ha;have hi:i < n+1:=by rw[<-hn];exact (Array.getElem?_eq_some_iff.1 ho).1
  have hil:i < listed.size:=by omega
  have hu':listed.getD i false=false:=by simp[hil] at hu |-;exact hu
  have hdn:=dn_listed ho ha;have hcl2:Clos ops (listed.setIfInBounds i true):=fun j hj k hk=>by
   by_cases hji:j=i
   ·subst hji;exact getD_set_true (hdn k hk)
   ·rw[getD_set_ne false (fun e=>hji e.symm)] at hj;exact getD_set_true (hcl j hj k hk)
  rcases hI with ⟨hnl,hI⟩ | ⟨hall,hQ⟩
  ·by_cases hin:i=n
   ·subst hin;have hall:∀ j,j < i->listed.getD j false=true:=fun j hj=>by
     refine cov_listed hcl i (dn ops i) hdn j ?_;unfold sinkB at hk;have:=List.all_eq_true.1 hk j (List.mem_range.2 hj);simpa using this
    obtain ⟨f,rfl,hok,_⟩:=hI.ex;refine wpOp_mono ?_ (last f _ w rfl (fun s hs=>slot_in hD hs) (fun s hs=>slot_out hs) hI.chg (fun j hj=>hok j (hall j hj)));intro a' w' hQ;refine ⟨by simpa using hsz,hcl2,.inr ⟨fun j hj=>?_,hQ⟩⟩;by_cases hji:j=i
    ·subst hji;simp[hil]
    ·exact getD_set_true (hall j (by omega))
   ·refine wpOp_mono ?_ (mv_step2 hD hI ho hu ha (hst i o (by omega) ho) (by omega));intro a' w' h;exact ⟨by simpa using hsz,hcl2,.inl ⟨by rw[getD_set_ne false hin];exact hnl,h⟩⟩
  ·rw[hall i hi] at hu';cases hu'
 ·rintro listed a w ⟨hsz,hcl,hI⟩ hall;rcases hI with ⟨hnl,hI⟩ | ⟨_,hQ⟩
  ·rw[hall n (by omega)] at hnl;cases hnl
  ·exact hQ
 ·rw[Array.toList_replicate,List.count_replicate_self];exact Nat.le_refl _
 ·intro j hj;by_cases h:j < n+1<;>simp[hn,h] at hj
 ·refine .inl ⟨by simp[hn],⟨fun s=>t0.getD s undef,by rw[putAll_same],fun i h=>?_,fun j d _ _=>by simp⟩,(Chg.refl _ _).drew,fun j h=>?_,fun _=>(Chg.refl _ _).drew⟩
  ·by_cases hi:i < ops.size<;>simp[hi] at h
  ·by_cases hi:j < ops.size<;>simp[hi] at h
end
end
end Go.Proofs.YthohgagkjnbkbaaGreat
