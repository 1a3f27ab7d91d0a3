/- FragTrue, where what it reads is of bulk at most 1048576: the law returns true and its input reads as it did. Packed by a program from many texts: see NOTES.md. -/
import Derived.Test.YthohgagkjnbkbaaGreatP51
set_option maxRecDepth 100000
set_option maxHeartbeats 16000000
namespace Go.Proofs.YthohgagkjnbkbaaGreat
section
open Go.ChangeShapes Go.WideShapes Go.ChangeAt Go.RowKit Go.Deep
theorem own:ownKnob Tryz.prog.godebug=none:=by kernel_rfl
theorem laidOut:laidOutB Tryz.prog=true:=by kernel_rfl
theorem below_trodAll {H:Type} {enc:TypeId × Value->H} {P:Program} (hl:laidOutB P=true) {W W':World} (hb:Below W.heap.size W W'):
  ∀ (ts:List TypeId) (vs:List Value) (ds:List (DataW H)) (ps:List MemPlace),(∀ t ∈ ts,P.readableRec t=true/\t < P.types.size)->
  DataW.TrodAll enc P W 0 (fun _=>true) true ts vs ds ps->(∀ x ∈ ps,x.block < W.heap.size)->DataW.TrodAll enc P W' 0 (fun b=>decide (b < W.heap.size)) true ts vs ds ps
 | [],vs,ds,ps,_,h,_=>by
  obtain ⟨rfl,rfl,rfl⟩:=trodAll_nil h;exact trodAll_mk0
 | t::ts,vs,ds,ps,ht,h,hlt=>by
  obtain ⟨v,vs',d,ds',p,q,rfl,rfl,rfl,h0,h1⟩:=trodAll_cons h;obtain ⟨hr,hs⟩:=ht t List.mem_cons_self;exact trodAll_cons_mk (Below.trod hl hr hs h0 hb fun x hx=>hlt x (List.mem_append.2 (.inl hx)))
   (below_trodAll hl hb ts vs' ds' q (fun t' h'=>ht t' (List.mem_cons_of_mem _ h')) h1 fun x hx=>hlt x (List.mem_append.2 (.inr hx)))
theorem fragTrue_contract (H:Type) (enc:TypeId × Value->H) (W:World) (base:Nat) (args:Array Value) (ds gs:List (DataW H)) (before:List MemPlace)
  (hval:∀ (j:Nat) t v,Tryz.f3.params[j]?=some t->args[j]?=some v->Value.okWide Tryz.prog W .any base t v)
  (hW:DataW.Whole enc Tryz.prog Tryz.f3.params.toList Rows.fragTrueSpec.vars false W args.toList ds gs before) (hk:Rows.uptoSmall H (ds++gs)=true):
  Calls Tryz.prog 3 args W fun e W'=>∃ v,e=.returned v/\Rows.fragTrueSpec.post enc Tryz.prog Tryz.f3 false true false false W args v W':=by
 have hW':=hW;have hlt:=hW.lt;obtain ⟨p,q,hA0,hV,rfl,_,_⟩:=hW;have hA:DataW.TrodAll enc Tryz.prog W 0 (fun _=>true) true Tryz.f3.params.toList args.toList ds p:=hA0;rw[Tryz.params3] at hA hval;obtain ⟨rfl,rfl⟩:=trodVars_none hV;have hA1:=hA;obtain ⟨v0,vs0,d0,ds0,p0,q0,hargs,rfl,rfl,h0,r0⟩:=trodAll_cons hA;obtain ⟨v1,vs1,d1,ds1,p1,q1,rfl,rfl,rfl,h1,r1⟩:=trodAll_cons r0;obtain ⟨rfl,rfl,rfl⟩:=trodAll_nil r1;obtain rfl:args=#[v0,v1]:=by cases args;simp_all
 have hsm:Rows.uptoBulk d0<=1048576/\Rows.uptoBulk d1<=1048576:=by
  have:Rows.uptoBulkAll ([d0,d1]++[])<=1048576:=by simpa [Rows.uptoSmall] using hk
  simp only[List.append_nil,Rows.uptoBulkAll] at this;omega
 obtain ⟨m,X,rfl,hX⟩:=model_inU (hval 0 32 v0 rfl rfl) h0 hsm.1;obtain ⟨A,c,l,hv1,hc,hl,hr,hop⟩:∃ A c,∃ l:List Nm.Inst,v1=.slice A l.length c/\l.length<=c/\l.length<=4000000/\Rd W W.heap.size A (l.flatMap instV7)/\∀ x ∈ l,inR x.op:=by
  have hok:=hval 1 33 v1 rfl rfl;have hcs:=okWide_slice Tryz.underlying33 hok;obtain ⟨A0,n0,c0,rfl⟩:=hcs;obtain ⟨fuel,h1⟩:=h1;obtain ⟨A,c,l,e,h2,h3,h4,h5⟩:=form_inU h1 hsm.2;simp only[Value.cells,List.cons.injEq,and_true] at e;exact ⟨A,c,l,e,h2,h3,h4,h5⟩
 subst hv1;refine (law_any W m X A c l hX hl hc hr hop).mono fun e W' ⟨he,hch⟩=>?_
 subst he;have hb:Below W.heap.size W W':=hch.below (Nat.le_refl _) (fun _ h=>h.elim);refine ⟨_,rfl,_,_,_,[],p0++(p1++[]),[],hW',?_,?_,?_,hb.frame _,fun h=>by cases h⟩
 ·exact trodAll_mk1 (shut_bool Tryz.underlying4 _)
 ·exact below_trodAll laidOut hb [32,33] _ [d0,d1] _ (fun t ht=>by
   simp only[List.mem_cons,List.not_mem_nil,or_false] at ht;rcases ht with rfl | rfl
   ·exact ⟨by kernel_rfl,of_decide_eq_true (by kernel_rfl)⟩
   ·exact ⟨by kernel_rfl,of_decide_eq_true (by kernel_rfl)⟩) hA1 (fun x hx=>hlt x (by simpa using hx))
 ·rfl
theorem fragTrue_lifted (os:Os) (started:os.Started) (H:Type) (enc:TypeId × Value->H) (F:Stop.Interp):
  ReturnsInHanded {} Tryz.checked os 3 .any ((Rows.OpenSpec.upto Rows.fragTrueSpec).pre6 enc Tryz.prog Tryz.f3 Rows.fragTrueUptoRow.domain false) (((Rows.OpenSpec.upto Rows.fragTrueSpec).at F).post enc Tryz.prog Tryz.f3 false true false false):=by
 refine returnsInHanded_of_cond (C:=Tryz.checked) (s:=Rows.OpenSpec.upto Rows.fragTrueSpec) (k:=Rows.uptoSmall) rfl own started (by kernel_rfl) Tryz.func3
  (OpenSpec.witness (enc:=enc) (C:=Tryz.checked) (s:=Rows.OpenSpec.upto Rows.fragTrueSpec) (k:=Rows.uptoSmall) rfl false ⟨#[],#[.agg #[.slice none 0 0,.slice none 0 0,.slice none 0 0,.slice none 0 0,.slice none 0 0,.slice none 0 0,.slice none 0 0,.slice none 0 0,.slice none 0 0,.slice none 0 0],.slice none 0 0],[]⟩ 8 (by kernel_rfl) (by kernel_rfl) (by kernel_rfl)
   (x:=([.agg [.nil,.nil,.nil,.nil,.nil,.nil,.nil,.nil,.nil,.nil],.nil],[],[])) (by kernel_rfl) rfl (by kernel_rfl)) ?_
 intro W base args ds gs before hval hW _ hk _;exact fragTrue_contract H enc W base args ds gs before hval hW hk
theorem fragTrueUpto_holds:Rows.FragTrueUptoSaid:=
 OpenClaim.holds_of_cond 3 Tryz.f3 rfl rfl rfl rfl rfl rfl rfl ⟨rfl,rfl,rfl,rfl,rfl⟩ rfl rfl rfl rfl rfl (by kernel_rfl) Tryz.func3 (by kernel_rfl)
  (of_decide_eq_true (by kernel_rfl)) (by unfold Func.isWrapper;first | (rw[if_pos (by decide +kernel)];kernel_rfl) | (rw[if_neg (of_decide_eq_false (by kernel_rfl))];exact ⟨rfl,rfl⟩))
  (fun os started H enc _ F=>fragTrue_lifted os started H enc F)
#print axioms fragTrueUpto_holds
end
end Go.Proofs.YthohgagkjnbkbaaGreat
