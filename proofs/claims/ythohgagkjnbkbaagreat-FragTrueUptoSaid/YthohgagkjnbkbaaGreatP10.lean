/- FragTrue, part 10: RgMove FrRows FrEx FrIter. Each theorem says what a function does, or a plain fact, under its own premises alone. -/
import Derived.Test.YthohgagkjnbkbaaGreatP9
set_option maxRecDepth 100000
set_option maxHeartbeats 16000000
namespace Go.Proofs.YthohgagkjnbkbaaGreat
section
open Go.RowKit
def ZO (aq:Nat) (Z:Nat->Prop) (j:Nat) (k:Nat):Prop:=j ≠ aq/\Z k
def ZI (aq:Nat) (Z:Nat->Prop) (i:Nat) (k:Nat):Prop:=i=aq/\Z k
theorem wpOp_valueD {P:Program} {ops:Array Oper} {Q:Exit->Act->World->Prop} {a:Act} {w w':World} {i d:Nat} {o:Oper} {K:Act->World->Prop} {v:Value} (ho:ops[i]?=some o) (hg:o.guard=none) (hrun:(execOp a.eval o).run P w=.ok (.value v) w') (hd:o.dst=some d) (hk:K (a.put (some d) v) w'):wpOp P ops Q i K a w:=
 wpOp_value ho hg hrun (by rw[hd];exact hk)
section
variable {P:Program} {ops:Array Oper} {Q:Exit->Act->World->Prop} {t0:Array Value} {w0:World} {L:List (Option Nat)} {ds:List Nat} {SL:List Sp} {Z:Nat->Prop} {aq:Nat}
def mvS (aq:Nat) (Z:Nat->Prop) (SL:List Sp) (j:Nat) (v:Value) (w:World):Prop:=Sp.holds (ZO aq Z j) (SL.getD j (.is undef)) v w
theorem mvS_mono {j i:Nat} (hji:j ≠ i) {v:Value} {w w':World} (h:mvS aq Z SL j v w) (hc:Chg (ZI aq Z i) w w'):mvS aq Z SL j v w':=by
 unfold mvS at h |-;cases hs:SL.getD j (.is undef) with
 | is u=>rw[hs] at h;exact h
 | su p=>
  rw[hs] at h;obtain ⟨w1,h1,h2⟩:=h;exact ⟨w1,Chg.trans h1 hc (fun k _ hk=>⟨fun e=>hji (e.trans hk.1.symm),hk.2⟩),h2⟩
def waitsB (ops:Array Oper) (j i:Nat):Bool:=(cov ops j (dn ops j)).contains i
def Mv (P:Program) (ops:Array Oper) (Q:Exit->Act->World->Prop) (L:List (Option Nat)) (ds:List Nat) (SL:List Sp) (aq:Nat) (Z:Nat->Prop) (t0:Array Value) (w0:World) (i:Nat) (o:Oper):Prop:=
 ∀ (f:Nat->Value) (a:Act) (w:World),(∀ s,ds.contains s=true->(a.tmps[s]?).getD undef=f s)->(∀ s,ds.contains s=false->(a.tmps[s]?).getD undef=(t0[s]?).getD undef)->Chg Z w0 w->(i=aq->Chg (fun _=>False) w0 w)->(∀ j d,waitsB ops j i=true->L[j]?.join=some d->(a.tmps[d]?).getD undef=(t0[d]?).getD undef)->(∀ j,(dn ops i).contains j=true->mvS aq Z SL j (atF f (L[j]?.join)) w)->
  wpOp P ops Q i (fun a' w'=>∃ v,a'=a.put o.dst v/\mvS aq Z SL i v w'/\(o.dst=none->v=undef)/\Chg (ZI aq Z i) w w') a w
structure MvI (ops:Array Oper) (L:List (Option Nat)) (ds:List Nat) (SL:List Sp) (aq:Nat) (Z:Nat->Prop) (t0:Array Value) (w0:World) (listed:Array Bool) (a:Act) (w:World):Prop where
 ex:∃ f,a=⟨putAll t0 ds f,[]⟩/\(∀ i,listed.getD i false=true->mvS aq Z SL i (atF f (L[i]?.join)) w)/\∀ j d,listed.getD j false=false->L[j]?.join=some d->f d=(t0[d]?).getD undef
 chg:Chg Z w0 w
 clos:Clos ops listed
 ahead:listed.getD aq false=false->Chg (fun _=>False) w0 w
theorem mv_step (hD:dstB ops L ds t0.size=true) {listed:Array Bool} {a:Act} {w:World} (hI:MvI ops L ds SL aq Z t0 w0 listed a w) {i:Nat} {o:Oper} (ho:ops[i]?=some o) (hu:listed.getD i true=false) (ha:∀ e ∈ o.after,Region.binds .any e=true->listed.getD e.on false=true)
  (hst:Mv P ops Q L ds SL aq Z t0 w0 i o) (hsz:listed.size=ops.size):wpOp P ops Q i (MvI ops L ds SL aq Z t0 w0 (listed.setIfInBounds i true)) a w:=by
 obtain ⟨f,hf,hok,hpre⟩:=hI.ex;have hil:i < listed.size:=by rw[hsz];exact (Array.getElem?_eq_some_iff.1 ho).1
 have hu':listed.getD i false=false:=by simp[hil] at hu |-;exact hu
 have h:=hst f a w (fun s hs=>by rw[hf];exact slot_in hD hs) (fun s hs=>by rw[hf];exact slot_out hs) hI.chg (fun e=>hI.ahead (by rw[<-e];exact hu')) (fun j d hw hj=>by
  have hnl:listed.getD j false=false:=by
   cases hjl:listed.getD j false with
   | false=>rfl
   | true=>
    have:=cov_listed hI.clos j (dn ops j) (hI.clos j hjl) i (by simpa [waitsB] using hw);rw[hu'] at this;cases this
  rw[hf,slot_in hD (by
   have hD':=hD;simp only[dstB,Bool.and_eq_true,beq_iff_eq] at hD';rw[<-hD'.1.1.2];rw[List.contains_iff_mem,List.mem_filterMap];cases hLj:L[j]? with
   | none=>rw[hLj] at hj;cases hj
   | some x=>rw[hLj] at hj;exact ⟨x,List.mem_of_getElem? hLj,hj⟩)]
  exact hpre j d hnl hj) (fun j hj=>hok j (dn_listed ho ha j (by simpa using hj)))
 refine wpOp_mono ?_ h;rintro a' w' ⟨v,ha',hS,hun,hc⟩;have hd:=dst_of hD ho;have hD':=hD;simp only[dstB,Bool.and_eq_true,beq_iff_eq,decide_eq_true_eq,List.all_eq_true] at hD';obtain ⟨⟨⟨h1,h2⟩,h3⟩,h4⟩:=hD';have hLi:L[i]?=some o.dst:=by rw[<-h1];simp[ho]
 have hdn:=dn_listed ho ha;refine ⟨⟨fun s=>if o.dst=some s then v else f s,?_,?_,?_⟩,Chg.trans hI.chg hc (fun _ _ h=>h.2),?_,fun hnl=>?_⟩
 ·rw[ha',hf];unfold Act.put;cases hdd:o.dst with
  | none=>simp
  | some d=>
   have hm:d ∈ ds:=by
    rw[<-h2,List.mem_filterMap];exact ⟨some d,by rw[<-hdd];exact List.mem_of_getElem? hLi,rfl⟩
   dsimp only;rw[putAll_set t0 ds f d v hm];congr 2
   funext s
   by_cases e:s=d
   ·subst e;simp
   ·rw[if_neg e,if_neg (by simpa using fun e'=>e e'.symm)]
 ·intro j hj;by_cases hji:j=i
  ·subst hji;rw[hd];cases hdd:o.dst with
   | none=>rw[hun hdd] at hS;exact hS
   | some d=>simp only[atF,if_pos];exact hS
  ·rw[getD_set_ne false (fun e=>hji e.symm)] at hj;have h5:=mvS_mono hji (hok j hj) hc;have e:atF (fun s=>if o.dst=some s then v else f s) (L[j]?.join)=atF f (L[j]?.join):=by
    cases hLj:L[j]? with
    | none=>rfl
    | some x=>
     cases x with
     | none=>rfl
     | some d=>
      simp only[Option.join,atF];show (if o.dst=some d then v else f d)=f d;rw[if_neg];intro e;rw[e] at hLi;rw[<-h2] at h4;exact hji (filt_nodup L h4 j i d hLj hLi)
   rw[e];exact h5
 ·intro j d hj hLj;have hji:j ≠ i:=by rintro rfl;simp[hil] at hj
  rw[getD_set_ne false (fun e=>hji e.symm)] at hj;show (if o.dst=some d then v else f d)=_;rw[if_neg]
  ·exact hpre j d hj hLj
  ·intro e;rw[e] at hLi;rw[<-h2] at h4;cases hLj':L[j]? with
   | none=>rw[hLj'] at hLj;cases hLj
   | some x=>
    rw[hLj'] at hLj;have:x=some d:=hLj;rw[this] at hLj';exact hji (filt_nodup L h4 j i d hLj' hLi)
 ·intro j hj k hk;by_cases hji:j=i
  ·subst hji;exact getD_set_true (hdn k hk)
  ·rw[getD_set_ne false (fun e=>hji e.symm)] at hj;exact getD_set_true (hI.clos j hj k hk)
 ·by_cases hia:i=aq
  ·subst hia;simp[hil] at hnl
  ·rw[getD_set_ne false hia] at hnl;exact Chg.trans (hI.ahead hnl) hc (fun _ _ h=>absurd h.1 hia)
theorem region_mv {id:Nat} (hm:P.follows .mixedOrders=true) (L:List (Option Nat)) (ds:List Nat) (SL:List Sp) (aq:Nat) (Z:Nat->Prop) (hl:laterB ops=true) (hD:dstB ops L ds t0.size=true)
  (steps:Each (Mv P ops Q L ds SL aq Z t0 w0) 0 ops.toList) (done:∀ f w,Chg Z w0 w->(∀ i,i < ops.size->mvS aq Z SL i (atF f (L[i]?.join)) w)->Q .normal ⟨putAll t0 ds f,[]⟩ w):(Code.region id ops true).wp P Q ⟨t0,[]⟩ w0:=by
 have hst:∀ (i:Nat) o,ops[i]?=some o->Mv P ops Q L ds SL aq Z t0 w0 i o:=fun i o ho=>by
  have:=Each.get _ 0 i o steps (show ops.toList[i]?=some o by simpa using ho);rwa [Nat.zero_add] at this
 refine wp_region_any hm (wpAny_inv (I:=fun listed a w=>listed.size=ops.size/\MvI ops L ds SL aq Z t0 w0 listed a w) (laterB_spec hl) ?_ ?_ _ _ _ _ (by simp) ?_ ⟨by simp,?_⟩)
 ·rintro listed a w ⟨hsz,hI⟩ i o ho hu ha;exact wpOp_mono (fun a' w' h=>⟨by simpa using hsz,h⟩) (mv_step hD hI ho hu ha (hst i o ho) hsz)
 ·rintro listed a w ⟨hsz,hI⟩ hall;obtain ⟨f,rfl,hok,_⟩:=hI.ex;exact done f w hI.chg (fun i hi=>hok i (hall i hi))
 ·rw[Array.toList_replicate,List.count_replicate_self];exact Nat.le_refl _
 ·refine ⟨⟨fun s=>t0.getD s undef,by rw[putAll_same],fun i h=>?_,fun j d _ _=>by simp⟩,(Chg.refl _ _).drew,fun j h=>?_,fun _=>(Chg.refl _ _).drew⟩
  ·by_cases hi:i < ops.size<;>simp[hi] at h
  ·by_cases hi:j < ops.size<;>simp[hi] at h
theorem region_mvk {id:Nat} (hm:P.follows .mixedOrders=true) (L:List (Option Nat)) (ds:List Nat) (SL:List Sp) (aq:Nat) (Z:Nat->Prop) (n:Nat) (hn:ops.size=n+1) (hl:laterB ops=true) (hD:dstB ops L ds t0.size=true) (hk:sinkB ops n=true)
  (steps:Each (Mv P ops Q L ds SL aq Z t0 w0) 0 (ops.toList.take n)) (last:∀ (f:Nat->Value) (a:Act) (w:World),a=⟨putAll t0 ds f,[]⟩->(∀ s,ds.contains s=true->(a.tmps[s]?).getD undef=f s)->(∀ s,ds.contains s=false->(a.tmps[s]?).getD undef=(t0[s]?).getD undef)->Chg Z w0 w->(∀ i,i < n->mvS aq Z SL i (atF f (L[i]?.join)) w)->wpOp P ops Q n (fun a' w'=>Q .normal a' w') a w):(Code.region id ops true).wp P Q ⟨t0,[]⟩ w0:=by
 have hst:∀ (i:Nat) o,i < n->ops[i]?=some o->Mv P ops Q L ds SL aq Z t0 w0 i o:=fun i o hi ho=>by
  have:=Each.get _ 0 i o steps (show (ops.toList.take n)[i]?=some o by rw[List.getElem?_take];rw[if_pos hi];simpa using ho);rwa [Nat.zero_add] at this
 refine wp_region_any hm (wpAny_inv (I:=fun listed a w=>listed.size=n+1/\Clos ops listed/\((listed.getD n false=false/\MvI ops L ds SL aq Z t0 w0 listed a w)\/((∀ j,j < n+1->listed.getD j false=true)/\Q .normal a w))) (laterB_spec hl) ?_ ?_ _ _ _ _ (by simp) ?_ ⟨by simp[hn],?_,?_⟩)
 ·rintro listed a w ⟨hsz,hcl,hI⟩ i o ho hu ha;have hi:i < n+1:=by rw[<-hn];exact (Array.getElem?_eq_some_iff.1 ho).1
  have hil:i < listed.size:=by omega
  have hu':listed.getD i false=false:=by simp[hil] at hu |-;exact hu
  have hdn:=dn_listed ho ha;have hcl2:Clos ops (listed.setIfInBounds i true):=fun j hj k hk=>by
   by_cases hji:j=i
   ·subst hji;exact getD_set_true (hdn k hk)
   ·rw[getD_set_ne false (fun e=>hji e.symm)] at hj;exact getD_set_true (hcl j hj k hk)
  rcases hI with ⟨hnl,hI⟩ | ⟨hall,hQ⟩
  ·by_cases hin:i=n
   ·subst hin;have hall:∀ j,j < i->listed.getD j false=true:=fun j hj=>by
     refine cov_listed hcl i (dn ops i) hdn j ?_;unfold sinkB at hk;have:=List.all_eq_true.1 hk j (List.mem_range.2 hj);simpa using this
    obtain ⟨f,rfl,hok,_⟩:=hI.ex;refine wpOp_mono ?_ (last f _ w rfl (fun s hs=>slot_in hD hs) (fun s hs=>slot_out hs) hI.chg (fun j hj=>hok j (hall j hj)));intro a' w' hQ;refine ⟨by simpa using hsz,hcl2,.inr ⟨fun j hj=>?_,hQ⟩⟩;by_cases hji:j=i
    ·subst hji;simp[hil]
    ·exact getD_set_true (hall j (by omega))
   ·refine wpOp_mono ?_ (mv_step hD hI ho hu ha (hst i o (by omega) ho) (by omega));intro a' w' h;exact ⟨by simpa using hsz,hcl2,.inl ⟨by rw[getD_set_ne false hin];exact hnl,h⟩⟩
  ·rw[hall i hi] at hu';cases hu'
 ·rintro listed a w ⟨hsz,hcl,hI⟩ hall;rcases hI with ⟨hnl,hI⟩ | ⟨_,hQ⟩
  ·rw[hall n (by omega)] at hnl;cases hnl
  ·exact hQ
 ·rw[Array.toList_replicate,List.count_replicate_self];exact Nat.le_refl _
 ·intro j hj;by_cases h:j < n+1<;>simp[hn,h] at hj
 ·refine .inl ⟨by simp[hn],⟨fun s=>t0.getD s undef,by rw[putAll_same],fun i h=>?_,fun j d _ _=>by simp⟩,(Chg.refl _ _).drew,fun j h=>?_,fun _=>(Chg.refl _ _).drew⟩
  ·by_cases hi:i < ops.size<;>simp[hi] at h
  ·by_cases hi:j < ops.size<;>simp[hi] at h
variable {a:Act} {w w':World} {i:Nat} {o:Oper}
theorem mv_is {v:Value} (ho:ops[i]?=some o) (hg:o.guard=none) (hrun:(execOp a.eval o).run P w=.ok (.value v) w) (hS:SL.getD i (.is undef)=.is v) (hd:o.dst ≠ none):wpOp P ops Q i (fun a' w'=>∃ v,a'=a.put o.dst v/\mvS aq Z SL i v w'/\(o.dst=none->v=undef)/\Chg (ZI aq Z i) w w') a w:=
 wpOp_value ho hg hrun ⟨v,rfl,by unfold mvS;rw[hS];rfl,fun h=>absurd h hd,Chg.refl _ _⟩
theorem mv_su {v:Value} {p:Value->World->Prop} (ho:ops[i]?=some o) (hg:o.guard=none) (hrun:(execOp a.eval o).run P w=.ok (.value v) w') (hS:SL.getD i (.is undef)=.su p) (hp:p v w') (hc:Chg (fun _=>False) w w') (hd:o.dst ≠ none):wpOp P ops Q i (fun a' w'=>∃ v,a'=a.put o.dst v/\mvS aq Z SL i v w'/\(o.dst=none->v=undef)/\Chg (ZI aq Z i) w w') a w:=
 wpOp_value ho hg hrun ⟨v,rfl,by unfold mvS;rw[hS];exact ⟨w',Chg.refl _ _,hp⟩,fun h=>absurd h hd,hc.mono (fun _ _ h=>h.elim)⟩
theorem mv_mv {v:Value} {p:Value->World->Prop} (ho:ops[i]?=some o) (hg:o.guard=none) (hrun:(execOp a.eval o).run P w=.ok (.value v) w') (hS:SL.getD i (.is undef)=.su p) (hp:p v w') (hi:i=aq) (hc:Chg Z w w') (hd:o.dst ≠ none):wpOp P ops Q i (fun a' w'=>∃ v,a'=a.put o.dst v/\mvS aq Z SL i v w'/\(o.dst=none->v=undef)/\Chg (ZI aq Z i) w w') a w:=
 wpOp_value ho hg hrun ⟨v,rfl,by unfold mvS;rw[hS];exact ⟨w',Chg.refl _ _,hp⟩,fun h=>absurd h hd,hc.mono (fun _ _ h=>⟨hi,h⟩)⟩
theorem mv_call {f:FuncId} {args:Array Value} {p:Value->World->Prop} (ho:ops[i]?=some o) (hg:o.guard=none) (hrun:(execOp a.eval o).run P w=.ok (.enter f args) w) (hS:SL.getD i (.is undef)=.su p) (hd:o.dst ≠ none) (hk:Calls P f args w fun e w'=>∃ v,e=.returned v/\p v w'/\Chg (fun _=>False) w w'):wpOp P ops Q i (fun a' w'=>∃ v,a'=a.put o.dst v/\mvS aq Z SL i v w'/\(o.dst=none->v=undef)/\Chg (ZI aq Z i) w w') a w:=by
 refine wpOp_enter ho hg hrun (hk.mono ?_);rintro e w' ⟨v,he,hp,hc⟩;exact ⟨v,he,v,rfl,by unfold mvS;rw[hS];exact ⟨w',Chg.refl _ _,hp⟩,fun h=>absurd h hd,hc.mono (fun _ _ h=>h.elim)⟩
theorem mv_calli {f:FuncId} {args:Array Value} {v:Value} (ho:ops[i]?=some o) (hg:o.guard=none) (hrun:(execOp a.eval o).run P w=.ok (.enter f args) w) (hS:SL.getD i (.is undef)=.is v) (hd:o.dst ≠ none) (hk:Calls P f args w fun e w'=>e=.returned v/\Chg (fun _=>False) w w'):wpOp P ops Q i (fun a' w'=>∃ v,a'=a.put o.dst v/\mvS aq Z SL i v w'/\(o.dst=none->v=undef)/\Chg (ZI aq Z i) w w') a w:=by
 refine wpOp_enter ho hg hrun (hk.mono ?_);rintro e w' ⟨he,hc⟩;exact ⟨v,he,v,rfl,by unfold mvS;rw[hS];rfl,fun h=>absurd h hd,hc.mono (fun _ _ h=>h.elim)⟩
theorem wanted_g {j d:Nat} {b:Bool} (hg:o.guard=some (j,b)) (hj:(ops[j]?).bind (·.dst)=some d) (hv:(a.tmps[d]?).getD undef=.bool b):Region.wanted o (yielded ops a.tmps)=true:=by
 have h:a.tmps[d]?=some (.bool b):=by
  cases h:a.tmps[d]? with
  | none=>rw[h] at hv;cases hv
  | some v=>rw[h] at hv;exact congrArg some hv
 have hj':((ops[j]?).bind fun x=>x.dst)=some d:=hj;simp only[Region.wanted,hg,yielded,hj',Option.bind_some,h];simp
theorem wanted_n {j d:Nat} {b c:Bool} (hg:o.guard=some (j,b)) (hj:(ops[j]?).bind (·.dst)=some d) (hv:(a.tmps[d]?).getD undef=.bool c) (hc:(c ==b)=false):Region.wanted o (yielded ops a.tmps)=false:=by
 have h:a.tmps[d]?=some (.bool c):=by
  cases h:a.tmps[d]? with
  | none=>rw[h] at hv;cases hv
  | some v=>rw[h] at hv;exact congrArg some hv
 have hj':((ops[j]?).bind fun x=>x.dst)=some d:=hj;simp only[Region.wanted,hg,yielded,hj',Option.bind_some,h];cases b<;>cases c<;>simp at hc |-
theorem wanted_u {j d:Nat} {b:Bool} (hg:o.guard=some (j,b)) (hj:(ops[j]?).bind (·.dst)=some d) (hv:(a.tmps[d]?).getD undef=undef):Region.wanted o (yielded ops a.tmps)=false:=by
 have hj':((ops[j]?).bind fun x=>x.dst)=some d:=hj;simp only[Region.wanted,hg,yielded,hj',Option.bind_some];cases h:a.tmps[d]? with
 | none=>rfl
 | some v=>
  rw[h] at hv;have:v=undef:=hv;subst this;rfl
theorem wpOp_valueW {K:Act->World->Prop} {v:Value} (ho:ops[i]?=some o) (hw:Region.wanted o (yielded ops a.tmps)=true) (hrun:(execOp a.eval o).run P w=.ok (.value v) w') (hk:K (a.put o.dst v) w'):wpOp P ops Q i K a w:=by
 unfold wpOp;rw[ho];show if Region.wanted o (yielded ops a.tmps)=true then _ else _;rw[if_pos hw];left;unfold Oper.wp;rw[hrun];exact hk
theorem wpOp_enterW {K:Act->World->Prop} {f:FuncId} {args:Array Value} (ho:ops[i]?=some o) (hw:Region.wanted o (yielded ops a.tmps)=true) (hrun:(execOp a.eval o).run P w=.ok (.enter f args) w) (hk:Calls P f args w fun e w'=>∃ v,e=.returned v/\K (a.put o.dst v) w'):wpOp P ops Q i K a w:=by
 unfold wpOp;rw[ho];show if Region.wanted o (yielded ops a.tmps)=true then _ else _;rw[if_pos hw];left;unfold Oper.wp;rw[hrun];refine Calls.mono hk ?_;rintro e w'' ⟨v,rfl,h⟩;exact h
theorem mg_is {v:Value} (ho:ops[i]?=some o) (hw:Region.wanted o (yielded ops a.tmps)=true) (hrun:(execOp a.eval o).run P w=.ok (.value v) w) (hS:SL.getD i (.is undef)=.is v) (hd:o.dst ≠ none):wpOp P ops Q i (fun a' w'=>∃ v,a'=a.put o.dst v/\mvS aq Z SL i v w'/\(o.dst=none->v=undef)/\Chg (ZI aq Z i) w w') a w:=
 wpOp_valueW ho hw hrun ⟨v,rfl,by unfold mvS;rw[hS];rfl,fun h=>absurd h hd,Chg.refl _ _⟩
theorem mg_su {v:Value} {p:Value->World->Prop} (ho:ops[i]?=some o) (hw:Region.wanted o (yielded ops a.tmps)=true) (hrun:(execOp a.eval o).run P w=.ok (.value v) w') (hS:SL.getD i (.is undef)=.su p) (hp:p v w') (hc:Chg (fun _=>False) w w') (hd:o.dst ≠ none):wpOp P ops Q i (fun a' w'=>∃ v,a'=a.put o.dst v/\mvS aq Z SL i v w'/\(o.dst=none->v=undef)/\Chg (ZI aq Z i) w w') a w:=
 wpOp_valueW ho hw hrun ⟨v,rfl,by unfold mvS;rw[hS];exact ⟨w',Chg.refl _ _,hp⟩,fun h=>absurd h hd,hc.mono (fun _ _ h=>h.elim)⟩
theorem mg_call {f:FuncId} {args:Array Value} {p:Value->World->Prop} (ho:ops[i]?=some o) (hw:Region.wanted o (yielded ops a.tmps)=true) (hrun:(execOp a.eval o).run P w=.ok (.enter f args) w) (hS:SL.getD i (.is undef)=.su p) (hd:o.dst ≠ none) (hk:Calls P f args w fun e w'=>∃ v,e=.returned v/\p v w'/\Chg (fun _=>False) w w'):wpOp P ops Q i (fun a' w'=>∃ v,a'=a.put o.dst v/\mvS aq Z SL i v w'/\(o.dst=none->v=undef)/\Chg (ZI aq Z i) w w') a w:=by
 refine wpOp_enterW ho hw hrun (hk.mono ?_);rintro e w' ⟨v,he,hp,hc⟩;exact ⟨v,he,v,rfl,by unfold mvS;rw[hS];exact ⟨w',Chg.refl _ _,hp⟩,fun h=>absurd h hd,hc.mono (fun _ _ h=>h.elim)⟩
theorem mg_calli {f:FuncId} {args:Array Value} {v:Value} (ho:ops[i]?=some o) (hw:Region.wanted o (yielded ops a.tmps)=true) (hrun:(execOp a.eval o).run P w=.ok (.enter f args) w) (hS:SL.getD i (.is undef)=.is v) (hd:o.dst ≠ none) (hk:Calls P f args w fun e w'=>e=.returned v/\Chg (fun _=>False) w w'):wpOp P ops Q i (fun a' w'=>∃ v,a'=a.put o.dst v/\mvS aq Z SL i v w'/\(o.dst=none->v=undef)/\Chg (ZI aq Z i) w w') a w:=by
 refine wpOp_enterW ho hw hrun (hk.mono ?_);rintro e w' ⟨he,hc⟩;exact ⟨v,he,v,rfl,by unfold mvS;rw[hS];rfl,fun h=>absurd h hd,hc.mono (fun _ _ h=>h.elim)⟩
theorem mg_skip (ho:ops[i]?=some o) (hw:Region.wanted o (yielded ops a.tmps)=false) (hS:SL.getD i (.is undef)=.is undef):wpOp P ops Q i (fun a' w'=>∃ v,a'=a.put o.dst v/\mvS aq Z SL i v w'/\(o.dst=none->v=undef)/\Chg (ZI aq Z i) w w') a w:=by
 unfold wpOp;rw[ho];show if Region.wanted o (yielded ops a.tmps)=true then _ else _;rw[if_neg (by rw[hw];exact Bool.false_ne_true)];exact ⟨undef,rfl,by unfold mvS;rw[hS];rfl,fun _=>rfl,Chg.refl _ _⟩
end
structure Rw where
 a:Option Addr
 n:Nat
 c:Nat
 xs:List Value
def rwC (r:Rw):List Value:=[.slice r.a r.n r.c]
def RwOK (w:World) (e:TypeId) (r:Rw):Prop:=Rd w w.heap.size r.a r.xs/\∀ ad,r.a=some ad->0 < r.xs.length->∃ cur,Blk w ad.block e cur
theorem RwOK.later {w w':World} {e:TypeId} {r:Rw} (h:RwOK w e r) (hc:Chg (fun _=>False) w w'):RwOK w' e r:=
 ⟨h.1.later hc (fun _ h=>h.elim),fun ad ha hl=>let ⟨cur,hb⟩:=h.2 ad ha hl;⟨cur,hb.chg hc (fun h=>h)⟩⟩
theorem RwOK.own {w:World} {base n c size:Nat} {e:TypeId} {A:Option Addr} {xs:List Value} (h:w.ownsRow base e size (.slice A n c) n xs):RwOK w e ⟨A,n,c,xs⟩:=
 ⟨own_rdN h,fun ad ha hl=>by
  have ha':A=some ad:=ha;rcases h.2 with ⟨h1,_⟩ | ⟨g,cap,cur,h1,_,hh,_⟩
  ·injection h1 with h1 _ _;rw[ha'] at h1;cases h1
  ·injection h1 with h1 _ _;rw[ha'] at h1;injection h1 with h1;subst h1;exact ⟨cur,hh⟩⟩
structure Rws (w0 wr:World) (T e:TypeId) (v:Value) (R:List Rw):Prop where
 own:wr.ownsRow w0.heap.size T 1 v R.length (R.flatMap rwC)
 each:∀ r ∈ R,RwOK wr e r
 chg:Chg (fun _=>False) w0 wr
theorem Rws.start (w:World) (T e:TypeId):Rws w w T e (.slice none 0 0) []:=⟨World.ownsRow_nil _ _ _ _,fun r h=>by simp at h,Chg.refl _ _⟩
theorem Rws.later {w0 wr w':World} {T e:TypeId} {v:Value} {R:List Rw} (h:Rws w0 wr T e v R) (hc:Chg (fun _=>False) wr w'):Rws w0 w' T e v R:=
 ⟨own_chg h.own hc (fun _ _ h=>h),fun r hr=>(h.each r hr).later hc,Ct h.chg hc⟩
theorem RwOK.far {w w':World} {T e:TypeId} {v:Value} {base size n:Nat} {xs:List Value} {r:Rw} (h:RwOK w e r) (ho:w.ownsRow base T size v n xs) (hne:e ≠ T) (hc:Chg (fun k=>v.ownBlock=some k) w w'):RwOK w' e r:=by
 have key:∀ ad,r.a=some ad->0 < r.xs.length->¬ v.ownBlock=some ad.block:=fun ad ha hl=>by
  obtain ⟨cur,hb⟩:=h.2 ad ha hl;exact own_blk_ne ho hb (fun e'=>hne e'.symm)
 exact ⟨h.1.far hc (Nat.le_refl _) key,fun ad ha hl=>let ⟨cur,hb⟩:=h.2 ad ha hl;⟨cur,hb.chg hc (key ad ha hl)⟩⟩
theorem Rws.more {w0 wa w':World} {T e:TypeId} {v v':Value} {R:List Rw} {r:Rw} {o:Obj} (h:Rws w0 wa T e v R) (hne:e ≠ T) (hr:RwOK wa e r) (ho:w'.ownsRow w0.heap.size T 1 v' (R.length+1) (R.flatMap rwC++[.slice r.a r.n r.c])) (hg:(wa.alloc o).grownBy w' v.ownBlock):Rws w0 w' T e v' (R++[r]):=by
 have hc:Chg (fun k=>v.ownBlock=some k) wa w':=Chg.grown ((Chg.refl _ wa).alloc o) hg (fun k hk=>.inl hk);refine ⟨by rw[List.length_append,List.flatMap_append];exact ho,?_,Chg.trans h.chg hc (fun i hi e=>by have:=(h.own.lt i e).1;omega)⟩;intro x hx;rcases List.mem_append.1 hx with hx | hx
 ·exact (h.each x hx).far h.own hne hc
 ·obtain rfl:x=r:=by simpa using hx
  exact hr.far h.own hne hc
def edC (x:Int × Int × Int):List Value:=[.int .i64 x.1,.int .i64 x.2.1,.int .i64 x.2.2]
structure RowE where
 a:Option Addr
 l:List (Int × Int × Int)
 c:Nat
def rowEC (r:RowE):List Value:=[.slice r.a r.l.length r.c]
structure GrC where
 nA:Option Addr
 ns:List NC
 nC:Nat
 eA:Option Addr
 es:List RowE
 eC:Nat
def grA (g:GrC):Array Value:=#[.slice g.nA g.ns.length g.nC,.slice g.eA g.es.length g.eC]
structure GOK (w:World) (g:GrC):Prop where
 nR:Rd w w.heap.size g.nA (g.ns.flatMap nC)
 ns:∀ n ∈ g.ns,NOK w n
 eR:Rd w w.heap.size g.eA (g.es.flatMap rowEC)
 es:∀ r ∈ g.es,Rd w w.heap.size r.a (r.l.flatMap edC)/\r.l.length<=1000000000000
 few:g.ns.length<=1000/\g.es.length<=1000
theorem GOK.later {w w':World} {g:GrC} (h:GOK w g) (hc:Chg (fun _=>False) w w'):GOK w' g:=
 ⟨h.nR.later hc (fun _ h=>h.elim),fun n hn=>(h.ns n hn).later hc,h.eR.later hc (fun _ h=>h.elim),fun r hr=>⟨(h.es r hr).1.later hc (fun _ h=>h.elim),(h.es r hr).2⟩,h.few⟩
def toL (r:RowE):List Int:=r.l.map (·.2.2)
def Nxt (es:List RowE) (j:Nat) (R:List Rw):Prop:=R.length=j/\∀ (i:Nat) (r:Rw) (x:RowE),R[i]?=some r->es[i]?=some x->r.n=(toL x).length/\r.xs=intsV (toL x)
theorem Nxt.start (es:List RowE):Nxt es 0 []:=⟨rfl,fun i r x h=>by simp at h⟩
theorem Nxt.more {es:List RowE} {j:Nat} {R:List Rw} {x:RowE} {A:Option Addr} {c:Nat} (h:Nxt es j R) (hx:es[j]?=some x):Nxt es (j+1) (R++[⟨A,(toL x).length,c,intsV (toL x)⟩]):=by
 refine ⟨by simp[h.1],fun i r y hr hy=>?_⟩;rcases Nat.lt_trichotomy i j with hi | hi | hi
 ·rw[List.getElem?_append_left (by rw[h.1];exact hi)] at hr;exact h.2 i r y hr hy
 ·subst hi;rw[List.getElem?_append_right (by rw[h.1];exact Nat.le_refl _),h.1,Nat.sub_self] at hr;rw[hx] at hy;simp at hr hy;subst hr;subst hy;exact ⟨rfl,rfl⟩
 ·rw[List.getElem?_eq_none (by simp[h.1];omega)] at hr;cases hr
def rowsI (es:List RowE) (R:List Rw):List RowI:=(R.zip es).map fun p=>⟨p.1.a,toL p.2,p.1.c⟩
theorem rowsI_flat:∀ (es:List RowE) (R:List Rw),Nxt es es.length R->(rowsI es R).length=es.length/\(rowsI es R).flatMap rowC=R.flatMap rwC
 | [],[],_=>⟨rfl,rfl⟩
 | [],r::R,h=>by have:=h.1;simp at this
 | x::es,[],h=>by have:=h.1;simp at this
 | x::es,r::R,h=>by
  have h2:Nxt es es.length R:=⟨by have:=h.1;simpa using this,fun i r' x' hr hx=>h.2 (i+1) r' x' (by simpa using hr) (by simpa using hx)⟩;obtain ⟨h3,h4⟩:=rowsI_flat es R h2;have h5:=(h.2 0 r x rfl rfl).1;unfold rowsI at h3 h4 |-;refine ⟨by simpa using h3,?_⟩;rw[List.zip_cons_cons,List.map_cons,List.flatMap_cons,List.flatMap_cons,h4];show [Value.slice r.a (toL x).length r.c]++_=[Value.slice r.a r.n r.c]++_;rw[h5]
theorem rowsI_l {es:List RowE} {R:List Rw} (h:Nxt es es.length R):(rowsI es R).map (·.l)=es.map toL:=by
 unfold rowsI;rw[List.map_map];have:(fun (p:Rw × RowE)=>toL p.2)=toL ∘ Prod.snd:=rfl;show List.map (toL ∘ Prod.snd) (R.zip es)=_;rw[<-List.map_map,List.map_snd_zip (by rw[h.1];exact Nat.le_refl _)]
theorem rowsI_ok {w0 w:World} {es:List RowE} {R:List Rw} {A:Option Addr} {c:Nat} (h:Nxt es es.length R) (hR:Rws w0 w 52 3 (.slice A es.length c) R) (hf:es.length<=1000) (he:∀ r ∈ es,r.l.length<=1000000000000):NxOK w A (rowsI es R):=by
 obtain ⟨h1,h2⟩:=rowsI_flat es R h;have ho:=hR.own;rw[h.1] at ho;refine ⟨by rw[h2];exact own_rdN ho,fun r hr=>?_,by rw[h1];omega⟩;unfold rowsI at hr;obtain ⟨⟨p,q⟩,hp,rfl⟩:=List.mem_map.1 hr;obtain ⟨i,hi⟩:=List.getElem?_of_mem hp;rw[List.getElem?_zip_eq_some] at hi;have h5:=h.2 i p q hi.1 hi.2;have h6:=hR.each p (List.mem_of_getElem? hi.1);refine ⟨?_,?_⟩
 ·show Rd w w.heap.size p.a (intsV (toL q));rw[<-h5.2];exact h6.1
 ·have:=he q (List.mem_of_getElem? hi.2);simp only[toL,List.length_map];omega
def bA (h:Nat->Bool) (n:Nat):Array Value:=(boolsV (upTo h n)).toArray
def upd (h:Nat->Bool) (i:Nat) (b:Bool):Nat->Bool:=fun k=>if k=i then b else h k
theorem upTo_get (h:Nat->Bool) (n i:Nat):(upTo h n)[i]?=if i < n then some (h i) else none:=by
 unfold upTo;rw[List.getElem?_map];by_cases hi:i < n
 ·simp[hi]
 ·simp[hi]
theorem upTo_congr {f g:Nat->Bool} {n:Nat} (h:∀ i,i < n->f i=g i):upTo f n=upTo g n:=by
 unfold upTo;exact List.map_congr_left fun i hi=>h i (List.mem_range.1 hi)
theorem bA_set (h:Nat->Bool) (n i:Nat) (b:Bool):(bA h n).setIfInBounds i (.bool b)=bA (upd h i b) n:=by
 unfold bA;apply Array.ext';simp only[Array.toList_setIfInBounds];apply List.ext_getElem?;intro k;simp only[List.getElem?_set,boolsV,List.getElem?_map,upTo_get,List.length_map,upTo_len,upd];by_cases hk:i=k
 ·subst hk;by_cases hn:i < n<;>simp[hn]
 ·have:k ≠ i:=fun e=>hk e.symm
  simp[hk,this]
theorem bA_cell {w:World} {g n i:Nat} {h:Nat->Bool} (hb:Blk w g 4 (bA h n)) (hi:i < n):w.cell? ⟨g,i,none⟩=some (.bool (h i)):=by
 rw[hb.cell];simp[bA,boolsV,upTo_get,hi]
theorem bA_rd {w:World} {g n:Nat} {h:Nat->Bool} (hb:Blk w g 4 (bA h n)):Rd w w.heap.size (some ⟨g,0,none⟩) (boolsV (upTo h n)):=fun _=>
 ⟨_,rfl,hb.lt,fun j u hu=>by rw[add_row,Nat.zero_add,hb.cell];simpa [bA] using hu⟩
theorem bA_bor {w0 w:World} {g n:Nat} {h:Nat->Bool} (hb:Blk w g 4 (bA h n)) (hn:n<=100000) (hc:Chg (fun _=>False) w0 w) (hg:w0.heap.size<=g):BoR w0 (upTo h n) (.returned (.slice (some ⟨g,0,none⟩) n n)) w:=
 ⟨_,n,by rw[upTo_len],by rw[upTo_len];exact Nat.le_refl _,by unfold maxLen;omega,bA_rd hb,hc,fun ad he=>by injection he with he;subst he;exact hg⟩
theorem bA_made (n:Nat):madeCells #[Value.bool false] n=bA (fun _=>false) n:=by
 have:(bA (fun _=>false) n)=(List.replicate n (Value.bool false)).toArray:=by
  unfold bA;congr 1;apply List.ext_getElem?;intro k;simp only[boolsV,List.getElem?_map,upTo_get,List.getElem?_replicate];by_cases hk:k < n<;>simp[hk]
 rw[this,<-toList_madeCells_one]
def inn (f:Nat->Bool) (j:Nat) (s:Bool) (q:Nat):Bool:=if q=j then s else decide (q < j) && f q
theorem inn_zero (f:Nat->Bool):inn f 0 false=fun _=>false:=by funext q;unfold inn;by_cases h:q=0<;>simp[h]
theorem inn_next (f:Nat->Bool) (j:Nat):inn f j (f j)=inn f (j+1) false:=by
 funext q;unfold inn
 by_cases h1:q=j
 ·subst h1;simp
 ·by_cases h2:q=j+1
  ·subst h2;simp;omega
  ·have:(q < j)=(q < j+1):=by rw[eq_iff_iff];omega
   simp[h1,h2,this]
theorem inn_upd (f:Nat->Bool) (j:Nat) (s b:Bool):upd (inn f j s) j b=inn f j b:=by
 funext q;unfold upd inn;by_cases h:q=j<;>simp[h]
theorem inn_last (f:Nat->Bool) (n:Nat):upTo (inn f n false) n=upTo f n:=by
 apply upTo_congr;intro i hi;unfold inn;simp[Nat.ne_of_lt hi,hi]
def exB (R:List RowI) (a:List Bool) (i:Nat):Bool:=(rowL R i).any fun k=>decide (k < (R.length:Int)) && isB a k
theorem ex_any (w:World) (R:List RowI) (a:List Bool) (N A:Option Addr) (d c:Nat) (hN:NxOK w N R) (hR:Rd w w.heap.size A (boolsV a)):Calls Tryz.prog 34 #[.slice N R.length d,.slice A a.length c] w fun e w'=>BoR w (upTo (exB R a) R.length) e w':=by
 have hn:=hN.few;have HI:=zI (fun (w':World) (h:Chg (fun _=>False) w w') (x:Int)=>is_any w' a A c x (hR.later h (fun _ h=>h.elim)));have hmk:=run_make_row' (P:=Tryz.prog) 47 4 (.bool false) 1 Tryz.underlying47 bool_info rfl .i64 .i64 R.length (by omega) (by omega);rw[bA_made] at hmk;obtain ⟨n,hnn⟩:∃ n,n=R.length:=⟨_,rfl⟩;obtain ⟨f,hf⟩:∃ f:Nat->Bool,f=exB R a:=⟨_,rfl⟩;rw[<-hf];have hfx:Hid (∀ j r,R[j]?=some r->f j=(r.l.take r.l.length).any fun k=>decide (k < (n:Int)) && isB a k):=by
  intro j r hr;rw[hf,List.take_length,hnn];unfold exB;rw[rowL_at hr]
 clear hf;rw[<-hnn] at hmk |-;rw[<-hnn] at hn;replace hN:=zI hN;obtain ⟨G,hG⟩:∃ G:Int->Bool,G=fun k=>decide (k < (n:Int)) && isB a k:=⟨_,rfl⟩
 rw[<-hG] at hfx;replace hG:=zI (show ∀ k,G k=(decide (k < (n:Int)) && isB a k) by rw[hG];intro k;rfl);replace hnn:=zI hnn;clear hR;go_enter Tryz.func34,Tryz.ntmps34;go_wp2_with fail
 clear hmk;obtain ⟨w1,hw1⟩:∃ w1,w1=w.alloc (.cells (bA (fun _=>false) n) 4):=⟨_,rfl⟩;obtain ⟨g,hg⟩:∃ g,g=w.heap.size:=⟨_,rfl⟩;have hB1:Hid (Blk w1 g 4 (bA (inn f 0 false) n)):=by rw[inn_zero,hw1,hg];exact Blk.new w 4 _
 have hC1:Hid (Chg (fun _=>False) w w1):=by rw[hw1];exact (Chg.refl _ w).alloc _
 rw[<-hw1,<-hg];replace hg:=zI hg;clear hw1;go_loopw [6,7] (fun x _ wr=>∃ j:Nat,j<=n/\x=.int .i64 j/\Hid (Blk wr g 4 (bA (inn f j false) n))/\Hid (Chg (fun _=>False) w wr)) (fun x _ _=>n - (intOf x).toNat)
 case atStart=>exact ⟨0,Nat.zero_le _,rfl,hB1,hC1⟩
 case round=>
  obtain ⟨j,hj,rfl,hO,hC⟩:=hrel;by_cases hlt:j < n
  ·obtain ⟨r,hr⟩:∃ r,R[j]?=some r:=⟨_,gG (by rw[<-hnn.out];exact hlt)⟩;have hx:=zI (hfx.out j r hr);go_wp2_with fail
   go_loopw [7] (fun y wk=>∃ k:Nat,k<=r.l.length/\y=.int .i64 k/\Hid (Blk wk g 4 (bA (inn f j ((r.l.take k).any G)) n))/\Hid (Chg (fun _=>False) w wk)) (fun y _=>r.l.length - (intOf y).toNat)
   case atStart=>exact ⟨0,Nat.zero_le _,rfl,by simpa using hO,hC⟩
   case round=>
    obtain ⟨k,hk,rfl,hO2,hC2⟩:=hrel;obtain ⟨b0,o0,hA,hc,hrd,hrl⟩:=(hN.out.later hC2.out).row hr;subst hA;by_cases hkl:k < r.l.length
    ·obtain ⟨b1,o1,hA1,_,hc1⟩:=int_at hrd (gG hkl);have hs1:=any_succ (f:=G) (gG hkl);obtain ⟨x,hxx⟩:∃ x,x=r.l[k]:=⟨_,rfl⟩;rw[<-hxx] at hc1 hs1;clear hxx hrd;rw[hA1] at hc;rw[hG.out x] at hs1;have HIx:=zI (HI.out _ hC2.out x);have hck:=bA_cell hO2.out hlt;have hfr:=hO2.out.frozen j;by_cases hxn:x < (n:Int)
     ·have d1:decide (x < (n:Int))=true:=by simpa using hxn
      rw[d1,Bool.true_and] at hs1;obtain ⟨ib,hib⟩:∃ ib,ib=isB a x:=⟨_,rfl⟩;rw[<-hib] at hs1 HIx;clear hib;cases ib with
      | false=>
       replace hs1:=zI (by simpa using hs1);go_wp2_with (go_at_call 35;refine HIx.out.mono ?_;rintro e w' ⟨rfl,rfl⟩)
       go_roundw
       case rel=>exact ⟨k+1,by omega,by go_num,by rw[hs1.out];exact hO2,hC2⟩
       case measure=>(simp[intOf]<;>omega)
      | true=>
       replace hs1:=zI (show (r.l.take (k+1)).any G=true by simpa using hs1);have hO3:=zI (hO2.out.set j (.bool true));rw[bA_set,inn_upd] at hO3;have hC3:=zI (Chg.setCell hC2.out (p:=⟨g,j,none⟩) (.inr (by rw[hg.out];exact Nat.le_refl _)) (.bool true));go_wp2_with (go_at_call 35;refine HIx.out.mono ?_;rintro e w' ⟨rfl,rfl⟩)
       go_roundw
       case rel=>exact ⟨k+1,by omega,by go_num,by rw[hs1.out];exact hO3,hC3⟩
       case measure=>(simp[intOf]<;>omega)
     ·have d1:decide (x < (n:Int))=false:=by simpa using hxn
      rw[d1,Bool.false_and,Bool.or_false] at hs1;replace hs1:=zI hs1;clear hxn;go_wp2_with fail
      go_roundw
      case rel=>exact ⟨k+1,by omega,by go_num,by rw[hs1.out];exact hO2,hC2⟩
      case measure=>(simp[intOf]<;>omega)
    ·obtain rfl:k=r.l.length:=by omega
     replace hO2:Hid (Blk wr g 4 (bA (inn f (j+1) false) n)):=by rw[<-inn_next,hx.out];exact hO2
     go_wp2_with fail
     go_roundw
     case rel=>exact ⟨j+1,by omega,by go_num,hO2,hC2⟩
     case measure=>(simp[intOf]<;>omega)
  ·obtain rfl:j=n:=by omega
   go_wp2
   go_ret;rw[<-inn_last];exact bA_bor hO.out hn hC.out (by rw[hg.out];exact Nat.le_refl _)
def iter (s:(Nat->Bool)->Nat->Bool):Nat->(Nat->Bool)->Nat->Bool
 | 0,h=>h
 | k+1,h=>s (iter s k h)
def Looks (s:(Nat->Bool)->Nat->Bool) (n:Nat):Prop:=∀ h h',upTo h n=upTo h' n->∀ i,i < n->s h i=s h' i
theorem upTo_eq {f g:Nat->Bool} {n:Nat} (h:upTo f n=upTo g n) (i:Nat) (hi:i < n):f i=g i:=by
 have:=congrArg (fun l=>l[i]?) h;simpa [upTo_get,hi] using this
theorem iter_stays {s:(Nat->Bool)->Nat->Bool} {n m:Nat} {h:Nat->Bool} (hs:Looks s n) (hm:∀ i,i < n->s (iter s m h) i=iter s m h i):∀ t,upTo (iter s (m+t) h) n=upTo (iter s m h) n:=by
 intro t
 induction t with
 | zero=>rfl
 | succ t ih=>
  apply upTo_congr;intro i hi;show s (iter s (m+t) h) i=_;rw[hs _ _ ih i hi,hm i hi]
def mix (h h':Nat->Bool) (k q:Nat):Bool:=if q < k then h' q else h q
theorem mix_zero (h h':Nat->Bool):mix h h' 0=h:=by funext q;simp[mix]
theorem mix_at (h h':Nat->Bool) (k:Nat):mix h h' k k=h k:=by simp[mix]
theorem mix_upd (h h':Nat->Bool) (k:Nat):upd (mix h h' k) k (h' k)=mix h h' (k+1):=by
 funext q;unfold upd mix
 by_cases h1:q=k
 ·subst h1;simp
 ·have:(q < k)=(q < k+1):=by rw[eq_iff_iff];omega
  simp[h1,this]
theorem mix_all (h h':Nat->Bool) (n:Nat):upTo (mix h h' n) n=upTo h' n:=upTo_congr fun i hi=>by simp[mix,hi]
def same (p:Nat->Bool) (k:Nat):Bool:=(List.range k).all p
theorem same_succ (p:Nat->Bool) (k:Nat):same p (k+1)=(same p k && p k):=by simp[same,List.range_succ]
theorem same_all {p:Nat->Bool} {n:Nat} (h:same p n=true) (i:Nat) (hi:i < n):p i=true:=by
 unfold same at h;rw[List.all_eq_true] at h;exact h i (List.mem_range.2 hi)
def egStep (R:List RowI) (h:Nat->Bool) (i:Nat):Bool:=h i && exB R (upTo h R.length) i
def euStep (R:List RowI) (a b:List Bool) (h:Nat->Bool) (i:Nat):Bool:=isB b i || (isB a i && exB R (upTo h R.length) i)
def allStep (R:List RowI) (a:List Bool) (h:Nat->Bool) (i:Nat):Bool:=h i || (isB a i && everyB R (upTo h R.length) i)
theorem eg_looks (R:List RowI):Looks (egStep R) R.length:=fun h h' e i hi=>by unfold egStep;rw[e,upTo_eq e i hi]
theorem eu_looks (R:List RowI) (a b:List Bool):Looks (euStep R a b) R.length:=fun h h' e i hi=>by unfold euStep;rw[e]
def egL (R:List RowI) (a:List Bool):List Bool:=upTo (iter (egStep R) (R.length+1) (fun i=>isB a i)) R.length
def euL (R:List RowI) (a b:List Bool):List Bool:=upTo (iter (euStep R a b) (R.length+1) (fun _=>false)) R.length
def allL (R:List RowI) (a b:List Bool):List Bool:=upTo (iter (allStep R a) (R.length+1) (fun i=>isB b i)) R.length
theorem rd_far {w:World} {B:Nat} {A:Option Addr} {xs:List Value} (h:Rd w B A xs) {p:Addr} (hp:∀ ad,A=some ad->p.block ≠ ad.block) (u:Value):Rd (w.setCell p u) B A xs:=fun hn=>by
 obtain ⟨ad,e,hb,hc⟩:=h hn;exact ⟨ad,e,hb,fun j v hv=>(World.cell?_setCell_other w p _ u (fun e'=>hp ad e (by rw[e',block_of_add]))).trans (hc j v hv)⟩
end
end Go.Proofs.YthohgagkjnbkbaaGreat
