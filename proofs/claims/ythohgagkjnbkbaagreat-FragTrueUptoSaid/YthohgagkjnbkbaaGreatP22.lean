/- FragTrue, part 22: InArgs TrPush TrNode. Each theorem says what a function does, or a plain fact, under its own premises alone. -/
import Derived.Test.YthohgagkjnbkbaaGreatP21
set_option maxRecDepth 100000
set_option maxHeartbeats 16000000
namespace Go.Proofs.YthohgagkjnbkbaaGreat
section
open Go.ChangeShapes Go.WideShapes Go.ChangeAt Go.RowKit Go.Deep
theorem bulk_one {H:Type} (d:DataW H):1<=Rows.uptoBulk d:=by
 cases d with
 | lit l=>cases l<;>simp[Rows.uptoBulk]
 | nil=>simp[Rows.uptoBulk]
 | ptr d=>simp[Rows.uptoBulk]
 | slice elems spare=>simp[Rows.uptoBulk]
 | agg parts=>simp[Rows.uptoBulk]
 | iface t d=>simp[Rows.uptoBulk]
 | map entries=>simp[Rows.uptoBulk]
 | held h=>simp[Rows.uptoBulk]
theorem bulk_part {H:Type} {d:DataW H} {l:List (DataW H)} (h:d ∈ l):Rows.uptoBulk d<=Rows.uptoBulkAll l:=by
 induction l with
 | nil=>cases h
 | cons x r ih=>
  simp only[Rows.uptoBulkAll];cases List.mem_cons.1 h with
  | inl e=>subst e;omega
  | inr e=>have:=ih e;omega
theorem bulk_length {H:Type} (l:List (DataW H)):l.length<=Rows.uptoBulkAll l:=by
 induction l with
 | nil=>simp[Rows.uptoBulkAll]
 | cons x r ih=>have:=bulk_one x;simp only[Rows.uptoBulkAll,List.length_cons];omega
section
variable {H:Type} {enc:TypeId × Value->H} {W:World}
theorem slice_inU {P:Program} {K fuel:Nat} {t e:TypeId} {C:Nat} {cs:List Value} {y:DataW H × List MemPlace} (ht:P.underlying t=some (.slice e)) (hC:P.cellsOf e=C) (hC0:0 < C)
  (h:DataW.trod enc P W 0 (fun _=>true) true fuel t cs=some y) (hK:Rows.uptoBulk y.1<=K) {α:Type} (f:α->List Value) (hf:∀ x,(f x).length=C) (good:α->Prop)
  (each:∀ (fuel:Nat) (cs:List Value) (y:DataW H × List MemPlace),DataW.trod enc P W 0 (fun _=>true) true fuel e cs=some y->Rows.uptoBulk y.1<=K->∃ x:α,cs=f x/\good x):
  ∃ A c,∃ l:List α,cs=[.slice A l.length c]/\l.length<=c/\l.length<=maxLen/\l.length<=K/\Rd W W.heap.size A (l.flatMap f)/\∀ x ∈ l,good x:=by
 rcases open_slice ht h with ⟨rfl,_⟩ | ⟨a,n,c,m,k,D,Pl,rfl,_,hl,hm,hmm,hy,hi⟩
 ·exact ⟨none,0,[],rfl,Nat.le_refl _,Nat.zero_le _,Nat.zero_le _,fun h=>by simp at h,fun t h=>by simp at h⟩
 ·have hmc:m=c:=by simpa using hmm
  subst hmc;subst hy;simp only[Rows.uptoBulk] at hK;have hlen:=bulk_length ((List.range n).map D);rw[List.length_map,List.length_range] at hlen;obtain ⟨l,hll,hP⟩:=build_list (P:=fun i x=>W.cells? 0 (a.add (i * C)) C=some (f x)/\good x) n (fun i hin=>by
   obtain ⟨cs',hc,ht'⟩:=hi i (by omega);have hpart:=bulk_part (List.mem_map_of_mem (f:=D) (List.mem_range.2 hin));obtain ⟨x,rfl,hg⟩:=each _ _ _ ht' (by simp only;omega);rw[hC] at hc;exact ⟨x,hc,hg⟩)
  refine ⟨some a,m,l,by rw[hll],by omega,by omega,by omega,fun h0=>?_,fun x hx=>?_⟩
  ·rw[flat_len f hf] at h0;have hl0:0 < l.length:=Nat.pos_of_mul_pos_right h0;have hcell:∀ j u,(l.flatMap f)[j]?=some u->W.cell? (a.add j)=some u:=by
    intro j u hu;have hj:j < l.length * C:=by have:=(List.getElem?_eq_some_iff.1 hu).1;rwa [flat_len f hf] at this
    have hjd:j / C < l.length:=(Nat.div_lt_iff_lt_mul hC0).2 hj;have hjm:j % C < C:=Nat.mod_lt _ hC0;have he:j / C * C+j % C=j:=by rw[Nat.mul_comm];exact Nat.div_add_mod j C
    obtain ⟨hc,_⟩:=hP (j / C) hjd;obtain ⟨_,_,hat⟩:=World.cells?_some hc;have h1:=hat (j % C) hjm;rw[add_of_add,he] at h1;rw[h1,<-flat_get f hf l (j / C) (j % C) hjd hjm,he];exact hu
   refine ⟨a,rfl,?_,hcell⟩;have h00:0 < (l.flatMap f).length:=by rw[flat_len f hf];exact h0
   have:=World.block_lt_of_cell? W _ (hcell 0 _ (gG h00));rwa [block_of_add] at this
  ·obtain ⟨i,hi2,rfl⟩:=List.getElem_of_mem hx;exact (hP i hi2).2
theorem slice_lenU {P:Program} {fuel:Nat} {t e:TypeId} {cs:List Value} {y:DataW H × List MemPlace} (ht:P.underlying t=some (.slice e)) (h:DataW.trod enc P W 0 (fun _=>true) true fuel t cs=some y):
  ∃ A n c,cs=[.slice A n c]/\n<=maxLen:=by
 rcases open_slice ht h with ⟨hcs,_⟩ | ⟨a,len,cap,m,k,D,Pl,hcs,_,hl,hm,hmm,_,hi⟩
 ·exact ⟨_,_,_,hcs,Nat.zero_le _⟩
 ·exact ⟨_,_,_,hcs,by omega⟩
theorem field_ofU {P:Program} {K fuel:Nat} {t:TypeId} {fs:Array Field} {cs:List Value} {y:DataW H × List MemPlace} (ht:P.underlying t=some (.struct fs)) (h:DataW.trod enc P W 0 (fun _=>true) true fuel t cs=some y) (hK:Rows.uptoBulk y.1<=K):
  cs.length=P.cellsOf t/\∃ n,∀ (i:Nat) (f:Field),fs[i]?=some f->∃ z,DataW.trod enc P W 0 (fun _=>true) true n f.type ((cs.drop f.offset).take (P.cellsOf f.type))=some z/\Rows.uptoBulk z.1<=K:=by
 obtain ⟨xs,n,_,hy,hl,hx,hf⟩:=DataW.trod_struct ht h;refine ⟨hl,n,fun i f hi=>?_⟩;have hil:i < fs.size:=(Array.getElem?_eq_some_iff.1 hi).1;rw[hf i f hi];refine ⟨xs[i]'(by omega),gG (by omega),?_⟩;subst hy;simp only[Rows.uptoBulk] at hK;have hpart:=bulk_part (List.mem_map_of_mem (f:=fun z:DataW H × List MemPlace=>z.1) (List.getElem_mem (l:=xs) (n:=i) (by omega)));omega
theorem field_atU {P:Program} {K n:Nat} {fs:Array Field} {cs:List Value}
  (hf:∀ (i:Nat) (f:Field),fs[i]?=some f->∃ z,DataW.trod enc P W 0 (fun _=>true) true n f.type ((cs.drop f.offset).take (P.cellsOf f.type))=some z/\Rows.uptoBulk z.1<=K) (i T o k:Nat) (hT:(fs[i]?.map fun f=>(f.type,f.offset))=some (T,o)) (hk:P.cellsOf T=k):
  ∃ z,DataW.trod enc P W 0 (fun _=>true) true n T ((cs.drop o).take k)=some z/\Rows.uptoBulk z.1<=K:=by
 obtain ⟨f,h1,h2⟩:=Option.map_eq_some_iff.1 hT;injection h2 with h3 h4;subst h3;subst h4;subst hk;exact hf i f h1
end
theorem lists_of {α β:Type} {P:α->β->Prop}:∀ {l:List α},(∀ x ∈ l,∃ y,P x y)->∃ L:List β,L.length=l.length/\∀ (i:Nat) x y,l[i]?=some x->L[i]?=some y->P x y
 | [],_=>⟨[],rfl,fun i x y h=>by simp at h⟩
 | a::l,h=>by
  obtain ⟨b,hb⟩:=h a List.mem_cons_self;obtain ⟨L,hL,hP⟩:=lists_of (l:=l) fun x hx=>h x (List.mem_cons_of_mem _ hx)
  refine ⟨b::L,by simp[hL],fun i x y h1 h2=>?_⟩;cases i with
  | zero=>
   simp only[List.getElem?_cons_zero,Option.some.injEq] at h1 h2;subst h1;subst h2;exact hb
  | succ i=>
   simp only[List.getElem?_cons_succ] at h1 h2;exact hP i x y h1 h2
theorem kz2:Tryz.prog.cellsOf 2=1:=by kernel_rfl
theorem kz3:Tryz.prog.cellsOf 3=1:=by kernel_rfl
theorem kz4:Tryz.prog.cellsOf 4=1:=by kernel_rfl
theorem kz9:Tryz.prog.cellsOf 9=1:=by kernel_rfl
theorem kz22:Tryz.prog.cellsOf 22=1:=by kernel_rfl
theorem kz23:Tryz.prog.cellsOf 23=1:=by kernel_rfl
theorem kz24:Tryz.prog.cellsOf 24=1:=by kernel_rfl
theorem kz25:Tryz.prog.cellsOf 25=1:=by kernel_rfl
theorem kz26:Tryz.prog.cellsOf 26=1:=by kernel_rfl
theorem kz27:Tryz.prog.cellsOf 27=1:=by kernel_rfl
theorem kz28:Tryz.prog.cellsOf 28=1:=by kernel_rfl
theorem kz29:Tryz.prog.cellsOf 29=1:=by kernel_rfl
theorem kz30:Tryz.prog.cellsOf 30=1:=by kernel_rfl
theorem kz32:Tryz.prog.cellsOf 32=10:=by kernel_rfl
theorem kz33:Tryz.prog.cellsOf 33=1:=by kernel_rfl
theorem kz52:Tryz.prog.cellsOf 52=1:=by kernel_rfl
theorem kz69:Tryz.prog.cellsOf 69=3:=by kernel_rfl
theorem kz71:Tryz.prog.cellsOf 71=5:=by kernel_rfl
theorem kz73:Tryz.prog.cellsOf 73=5:=by kernel_rfl
theorem kz81:Tryz.prog.cellsOf 81=2:=by kernel_rfl
theorem kz83:Tryz.prog.cellsOf 83=7:=by kernel_rfl
theorem kz117:Tryz.prog.cellsOf 117=2:=by kernel_rfl
theorem kz120:Tryz.prog.cellsOf 120=2:=by kernel_rfl
theorem kz125:Tryz.prog.cellsOf 125=2:=by kernel_rfl
theorem kz130:Tryz.prog.cellsOf 130=2:=by kernel_rfl
theorem l2 {α:Type} (l:List α) (h:l.length=2):∃ a0 a1,l=[a0,a1]:=
 match l,h with
 | [a0,a1],_=>⟨a0,a1,rfl⟩
theorem l3 {α:Type} (l:List α) (h:l.length=3):∃ a0 a1 a2,l=[a0,a1,a2]:=
 match l,h with
 | [a0,a1,a2],_=>⟨a0,a1,a2,rfl⟩
theorem l5 {α:Type} (l:List α) (h:l.length=5):∃ a0 a1 a2 a3 a4,l=[a0,a1,a2,a3,a4]:=
 match l,h with
 | [a0,a1,a2,a3,a4],_=>⟨a0,a1,a2,a3,a4,rfl⟩
theorem l7 {α:Type} (l:List α) (h:l.length=7):∃ a0 a1 a2 a3 a4 a5 a6,l=[a0,a1,a2,a3,a4,a5,a6]:=
 match l,h with
 | [a0,a1,a2,a3,a4,a5,a6],_=>⟨a0,a1,a2,a3,a4,a5,a6,rfl⟩
theorem l10 {α:Type} (l:List α) (h:l.length=10):∃ a0 a1 a2 a3 a4 a5 a6 a7 a8 a9,l=[a0,a1,a2,a3,a4,a5,a6,a7,a8,a9]:=
 match l,h with
 | [a0,a1,a2,a3,a4,a5,a6,a7,a8,a9],_=>⟨a0,a1,a2,a3,a4,a5,a6,a7,a8,a9,rfl⟩
def SetsG (W:World) (x:EvC) (l:List Int):Prop:=x.sn=l.length/\l.length<=4000000/\Rd W W.heap.size x.sa (intsV l)
def FormG (W:World) (A:Option Addr) (n:Nat) (l:List Nm.Inst):Prop:=n=l.length/\l.length<=4000000/\Rd W W.heap.size A (l.flatMap instV7)
theorem intsV_flat (l:List Int):l.flatMap inC=intsV l:=by
 induction l with
 | nil=>rfl
 | cons x l ih=>rw[List.flatMap_cons,ih];rfl
section
variable {H:Type} {enc:TypeId × Value->H} {W:World} {fuel:Nat} {cs:List Value} {y:DataW H × List MemPlace}
theorem int_inU (h:DataW.trod enc Tryz.prog W 0 (fun _=>true) true fuel 3 cs=some y):∃ x:Int,cs=inC x/\inR x:=by
 obtain ⟨n,hc,_,hw⟩:=DataW.trod_int Tryz.underlying3 h;refine ⟨n,hc,?_⟩;unfold inR;simp[Lit.wf,IntKind.min,IntKind.max,IntKind.signed,IntKind.bits] at hw;omega
theorem num_inU (h:DataW.trod enc Tryz.prog W 0 (fun _=>true) true fuel 2 cs=some y):∃ x:Int,cs=inC x:=by
 obtain ⟨n,hc,_⟩:=DataW.trod_int Tryz.underlying2 h;exact ⟨n,hc⟩
theorem pair_inU {T:Nat} {fs:Array Field} (hT:Tryz.prog.underlying T=some (.struct fs)) (hc:Tryz.prog.cellsOf T=2) (h0:(fs[0]?.map fun f=>(f.type,f.offset))=some (3,0)) (h1:(fs[1]?.map fun f=>(f.type,f.offset))=some (3,1))
  (h:DataW.trod enc Tryz.prog W 0 (fun _=>true) true fuel T cs=some y):∃ x:Int × Int,cs=soC x:=by
 obtain ⟨hl,n,hf⟩:=field_ofU (K:=Rows.uptoBulk y.1) hT h (Nat.le_refl _);rw[hc] at hl;obtain ⟨a0,a1,rfl⟩:=l2 cs hl;obtain ⟨z0,g0,_⟩:=field_atU hf 0 3 0 1 h0 kz3;obtain ⟨z1,g1,_⟩:=field_atU hf 1 3 1 1 h1 kz3;simp only[List.drop_zero,List.drop_succ_cons,List.take_succ_cons,List.take_zero] at g0 g1;obtain ⟨r,e0,_⟩:=int_inU g0;obtain ⟨t,e1,_⟩:=int_inU g1;simp only[inC,List.cons.injEq,and_true] at e0 e1;subst e0;subst e1;exact ⟨(r,t),rfl⟩
theorem atom_inU (h:DataW.trod enc Tryz.prog W 0 (fun _=>true) true fuel 81 cs=some y):∃ a n:Int,cs=[.int .i64 a,.int .i64 n]:=by
 obtain ⟨hl,n,hf⟩:=field_ofU (K:=Rows.uptoBulk y.1) Tryz.underlying81 h (Nat.le_refl _);rw[kz81] at hl;obtain ⟨a0,a1,rfl⟩:=l2 cs hl;obtain ⟨z0,g0,_⟩:=field_atU hf 0 3 0 1 rfl kz3;obtain ⟨z1,g1,_⟩:=field_atU hf 1 2 1 1 rfl kz2;simp only[List.drop_zero,List.drop_succ_cons,List.take_succ_cons,List.take_zero] at g0 g1;obtain ⟨r,e0,_⟩:=int_inU g0;obtain ⟨t,e1⟩:=num_inU g1;simp only[inC,List.cons.injEq,and_true] at e0 e1;subst e0;subst e1;exact ⟨r,t,rfl⟩
theorem inst_inU (h:DataW.trod enc Tryz.prog W 0 (fun _=>true) true fuel 83 cs=some y):∃ x:Nm.Inst,cs=instV7 x/\inR x.op:=by
 obtain ⟨hl,n,hf⟩:=field_ofU (K:=Rows.uptoBulk y.1) Tryz.underlying83 h (Nat.le_refl _);rw[kz83] at hl;obtain ⟨a0,a1,a2,a3,a4,a5,a6,rfl⟩:=l7 cs hl;obtain ⟨z0,g0,_⟩:=field_atU hf 0 3 0 1 rfl kz3;obtain ⟨z1,g1,_⟩:=field_atU hf 1 81 1 2 rfl kz81;obtain ⟨z2,g2,_⟩:=field_atU hf 2 81 3 2 rfl kz81;obtain ⟨z3,g3,_⟩:=field_atU hf 3 3 5 1 rfl kz3;obtain ⟨z4,g4,_⟩:=field_atU hf 4 3 6 1 rfl kz3;simp only[List.drop_zero,List.drop_succ_cons,List.take_succ_cons,List.take_zero] at g0 g1 g2 g3 g4;obtain ⟨op,e0,i0⟩:=int_inU g0;obtain ⟨la,ln,e1⟩:=atom_inU g1;obtain ⟨ra,rn,e2⟩:=atom_inU g2;obtain ⟨nn,e3,_⟩:=int_inU g3;obtain ⟨us,e4,_⟩:=int_inU g4;simp only[inC,List.cons.injEq,and_true] at e0 e1 e2 e3 e4;obtain ⟨rfl,rfl⟩:=e1;obtain ⟨rfl,rfl⟩:=e2;subst e0;subst e3;subst e4;exact ⟨⟨op,la,ln,ra,rn,nn,us⟩,rfl,i0⟩
theorem form_inU (h:DataW.trod enc Tryz.prog W 0 (fun _=>true) true fuel 33 cs=some y) (hK:Rows.uptoBulk y.1<=1048576):
  ∃ A c,∃ l:List Nm.Inst,cs=[.slice A l.length c]/\l.length<=c/\l.length<=4000000/\Rd W W.heap.size A (l.flatMap instV7)/\∀ x ∈ l,inR x.op:=by
 obtain ⟨A,c,l,h1,h2,_,h3,h4,h5⟩:=slice_inU Tryz.underlying33 kz83 (by omega) h hK instV7 (fun _=>rfl) (fun x=>inR x.op) (fun _ _ _ ht _=>inst_inU ht);exact ⟨A,c,l,h1,h2,by omega,h4,h5⟩
theorem ev_inU (h:DataW.trod enc Tryz.prog W 0 (fun _=>true) true fuel 73 cs=some y) (hK:Rows.uptoBulk y.1<=1048576):∃ x:EvC,cs=evC x/\∃ l,SetsG W x l:=by
 obtain ⟨hl,n,hf⟩:=field_ofU Tryz.underlying73 h hK;rw[kz73] at hl;obtain ⟨a0,a1,a2,a3,a4,rfl⟩:=l5 cs hl;obtain ⟨z0,h0,_⟩:=field_atU hf 0 9 0 1 rfl kz9;obtain ⟨z1,h1,_⟩:=field_atU hf 1 3 1 1 rfl kz3;obtain ⟨z2,h2,_⟩:=field_atU hf 2 3 2 1 rfl kz3;obtain ⟨z3,h3,b3⟩:=field_atU hf 3 52 3 1 rfl kz52;obtain ⟨z4,h4,_⟩:=field_atU hf 4 3 4 1 rfl kz3;simp only[List.drop_zero,List.drop_succ_cons,List.take_succ_cons,List.take_zero] at h0 h1 h2 h3 h4;obtain ⟨s,e0,_,_⟩:=DataW.trod_string Tryz.underlying9 h0;obtain ⟨r,e1,_⟩:=int_inU h1;obtain ⟨st,e2,_⟩:=int_inU h2;obtain ⟨A,c,l,e3,_,_,hn,hr,_⟩:=slice_inU Tryz.underlying52 kz3 (by omega) h3 b3 inC (fun _=>rfl) (fun _=>True) (fun _ _ _ ht _=>by obtain ⟨x,hx,_⟩:=int_inU ht;exact ⟨x,hx,trivial⟩);obtain ⟨t,e4,_⟩:=int_inU h4;simp only[inC,List.cons.injEq,and_true] at e0 e1 e2 e3 e4;subst e0;subst e1;subst e2;subst e3;subst e4;exact ⟨⟨s,r,st,A,l.length,c,t⟩,rfl,l,rfl,by omega,by rw[<-intsV_flat];exact hr⟩
theorem mi_inU (h:DataW.trod enc Tryz.prog W 0 (fun _=>true) true fuel 71 cs=some y) (hK:Rows.uptoBulk y.1<=1048576):∃ x:MiC,cs=miC x/\∃ l,FormG W x.ia x.il l:=by
 obtain ⟨hl,n,hf⟩:=field_ofU Tryz.underlying71 h hK;rw[kz71] at hl;obtain ⟨a0,a1,a2,a3,a4,rfl⟩:=l5 cs hl;obtain ⟨z0,h0,_⟩:=field_atU hf 0 9 0 1 rfl kz9;obtain ⟨z1,h1,_⟩:=field_atU hf 1 3 1 1 rfl kz3;obtain ⟨z2,h2,_⟩:=field_atU hf 2 3 2 1 rfl kz3;obtain ⟨z3,h3,b3⟩:=field_atU hf 3 33 3 1 rfl kz33;obtain ⟨z4,h4,_⟩:=field_atU hf 4 4 4 1 rfl kz4;simp only[List.drop_zero,List.drop_succ_cons,List.take_succ_cons,List.take_zero] at h0 h1 h2 h3 h4;obtain ⟨s,e0,_,_⟩:=DataW.trod_string Tryz.underlying9 h0;obtain ⟨r,e1,_⟩:=int_inU h1;obtain ⟨st,e2,_⟩:=int_inU h2;obtain ⟨A,c,l,e3,_,hn,hr,_⟩:=form_inU h3 b3;obtain ⟨t,e4,_⟩:=DataW.trod_bool Tryz.underlying4 h4;simp only[inC,List.cons.injEq,and_true] at e0 e1 e2 e3 e4;subst e0;subst e1;subst e2;subst e3;subst e4;exact ⟨⟨s,r,st,A,l.length,c,t⟩,rfl,l,rfl,hn,hr⟩
theorem gu_inU (h:DataW.trod enc Tryz.prog W 0 (fun _=>true) true fuel 69 cs=some y) (hK:Rows.uptoBulk y.1<=1048576):∃ x:GuC,cs=guC x/\∃ l,FormG W x.ia x.il l:=by
 obtain ⟨hl,n,hf⟩:=field_ofU Tryz.underlying69 h hK;rw[kz69] at hl;obtain ⟨a0,a1,a2,rfl⟩:=l3 cs hl;obtain ⟨z0,h0,_⟩:=field_atU hf 0 3 0 1 rfl kz3;obtain ⟨z1,h1,_⟩:=field_atU hf 1 3 1 1 rfl kz3;obtain ⟨z2,h2,b2⟩:=field_atU hf 2 33 2 1 rfl kz33;simp only[List.drop_zero,List.drop_succ_cons,List.take_succ_cons,List.take_zero] at h0 h1 h2;obtain ⟨r,e0,_⟩:=int_inU h0;obtain ⟨st,e1,_⟩:=int_inU h1;obtain ⟨A,c,l,e2,_,hn,hr,_⟩:=form_inU h2 b2;simp only[inC,List.cons.injEq,and_true] at e0 e1 e2;subst e0;subst e1;subst e2;exact ⟨⟨r,st,A,l.length,c⟩,rfl,l,rfl,hn,hr⟩
theorem ro_inU (h:DataW.trod enc Tryz.prog W 0 (fun _=>true) true fuel 117 cs=some y):∃ x:RoC,cs=roC x/\inR x.us:=by
 obtain ⟨hl,n,hf⟩:=field_ofU (K:=Rows.uptoBulk y.1) Tryz.underlying117 h (Nat.le_refl _);rw[kz117] at hl;obtain ⟨a0,a1,rfl⟩:=l2 cs hl;obtain ⟨z0,h0,_⟩:=field_atU hf 0 9 0 1 rfl kz9;obtain ⟨z1,h1,_⟩:=field_atU hf 1 3 1 1 rfl kz3;simp only[List.drop_zero,List.drop_succ_cons,List.take_succ_cons,List.take_zero] at h0 h1;obtain ⟨s,e0,_,_⟩:=DataW.trod_string Tryz.underlying9 h0;obtain ⟨r,e1,hr⟩:=int_inU h1;simp only[inC,List.cons.injEq,and_true] at e0 e1;subst e0;subst e1;exact ⟨⟨s,r⟩,rfl,hr⟩
theorem st_inU (h:DataW.trod enc Tryz.prog W 0 (fun _=>true) true fuel 120 cs=some y):∃ x:ByteArray × Int,cs=stC x:=by
 obtain ⟨hl,n,hf⟩:=field_ofU (K:=Rows.uptoBulk y.1) Tryz.underlying120 h (Nat.le_refl _);rw[kz120] at hl;obtain ⟨a0,a1,rfl⟩:=l2 cs hl;obtain ⟨z0,h0,_⟩:=field_atU hf 0 9 0 1 rfl kz9;obtain ⟨z1,h1,_⟩:=field_atU hf 1 3 1 1 rfl kz3;simp only[List.drop_zero,List.drop_succ_cons,List.take_succ_cons,List.take_zero] at h0 h1;obtain ⟨s,e0,_,_⟩:=DataW.trod_string Tryz.underlying9 h0;obtain ⟨r,e1,hr⟩:=int_inU h1;simp only[inC,List.cons.injEq,and_true] at e0 e1;subst e0;subst e1;exact ⟨(s,r),rfl⟩
theorem or_inU (h:DataW.trod enc Tryz.prog W 0 (fun _=>true) true fuel 130 cs=some y):∃ x:Bool × Int,cs=orC x/\inR x.2:=by
 obtain ⟨hl,n,hf⟩:=field_ofU (K:=Rows.uptoBulk y.1) Tryz.underlying130 h (Nat.le_refl _);rw[kz130] at hl;obtain ⟨a0,a1,rfl⟩:=l2 cs hl;obtain ⟨z0,h0,_⟩:=field_atU hf 0 4 0 1 rfl kz4;obtain ⟨z1,h1,_⟩:=field_atU hf 1 3 1 1 rfl kz3;simp only[List.drop_zero,List.drop_succ_cons,List.take_succ_cons,List.take_zero] at h0 h1;obtain ⟨s,e0,_⟩:=DataW.trod_bool Tryz.underlying4 h0;obtain ⟨r,e1,hr⟩:=int_inU h1;simp only[inC,List.cons.injEq,and_true] at e0 e1;subst e0;subst e1;exact ⟨(s,r),rfl,hr⟩
end
theorem model_inU {H:Type} {enc:TypeId × Value->H} {W:World} {v:Value} {d:DataW H} {p:List MemPlace} (hv:Value.okWide Tryz.prog W .any 0 32 v) (h:DataW.Trod enc Tryz.prog W 0 (fun _=>true) true 32 v d p) (hK:Rows.uptoBulk d<=1048576):∃ (m:MC) (X:MX),v=.agg (mA m)/\XP W m X:=by
 obtain ⟨cs,rfl,_⟩:=okWide_struct Tryz.underlying32 hv;obtain ⟨fuel,h⟩:=h;replace h:DataW.trod enc Tryz.prog W 0 (fun _=>true) true fuel 32 cs.toList=some (d,p):=h;obtain ⟨hl,n,hf⟩:=field_ofU Tryz.underlying32 h hK;rw[kz32] at hl;obtain ⟨a0,a1,a2,a3,a4,a5,a6,a7,a8,a9,hcs⟩:=l10 cs.toList hl;rw[hcs] at hf;obtain ⟨z0,h0,b0⟩:=field_atU hf 0 22 0 1 rfl kz22;obtain ⟨z1,h1,b1⟩:=field_atU hf 1 23 1 1 rfl kz23;obtain ⟨z2,h2,b2⟩:=field_atU hf 2 22 2 1 rfl kz22;obtain ⟨z3,h3,b3⟩:=field_atU hf 3 24 3 1 rfl kz24;obtain ⟨z4,h4,b4⟩:=field_atU hf 4 25 4 1 rfl kz25;obtain ⟨z5,h5,b5⟩:=field_atU hf 5 26 5 1 rfl kz26;obtain ⟨z6,h6,b6⟩:=field_atU hf 6 27 6 1 rfl kz27;obtain ⟨z7,h7,b7⟩:=field_atU hf 7 28 7 1 rfl kz28;obtain ⟨z8,h8,b8⟩:=field_atU hf 8 29 8 1 rfl kz29;obtain ⟨z9,h9,b9⟩:=field_atU hf 9 30 9 1 rfl kz30;simp only[List.drop_zero,List.drop_succ_cons,List.take_succ_cons,List.take_zero] at h0 h1 h2 h3 h4 h5 h6 h7 h8 h9;obtain ⟨aA,nA,cA,e0,l0⟩:=slice_lenU Tryz.underlying22 h0;obtain ⟨aI,cI,ini,e1,_,l1,_,r1,_⟩:=slice_inU Tryz.underlying23 kz2 (by omega) h1 b1 inC (fun _=>rfl) (fun _=>True) (fun _ _ _ ht _=>by obtain ⟨x,hx⟩:=num_inU ht;exact ⟨x,hx,trivial⟩);obtain ⟨aU,nU,cU,e2,l2⟩:=slice_lenU Tryz.underlying22 h2;obtain ⟨aR,cR,ro,e3,_,l3,_,r3,g3⟩:=slice_inU Tryz.underlying24 kz117 (by omega) h3 b3 roC (fun _=>rfl) (fun x=>inR x.us) (fun _ _ _ ht _=>ro_inU ht);obtain ⟨aS,cS,st,e4,_,l4,_,r4,_⟩:=slice_inU Tryz.underlying25 kz120 (by omega) h4 b4 stC (fun _=>rfl) (fun _=>True) (fun _ _ _ ht _=>by obtain ⟨x,hx⟩:=st_inU ht;exact ⟨x,hx,trivial⟩);obtain ⟨aE,cE,ev,e5,_,l5,_,r5,g5⟩:=slice_inU Tryz.underlying26 kz73 (by omega) h5 b5 evC (fun _=>rfl) (fun x=>∃ l,SetsG W x l) (fun _ _ _ ht hb=>ev_inU ht hb);obtain ⟨aG,cG,gu,e6,_,l6,_,r6,g6⟩:=slice_inU Tryz.underlying27 kz69 (by omega) h6 b6 guC (fun _=>rfl) (fun x=>∃ l,FormG W x.ia x.il l) (fun _ _ _ ht hb=>gu_inU ht hb);obtain ⟨aM,cM,mi,e7,_,l7,_,r7,g7⟩:=slice_inU Tryz.underlying28 kz71 (by omega) h7 b7 miC (fun _=>rfl) (fun x=>∃ l,FormG W x.ia x.il l) (fun _ _ _ ht hb=>mi_inU ht hb);obtain ⟨aD,cD,so,e8,_,l8,_,r8,_⟩:=slice_inU Tryz.underlying29 kz125 (by omega) h8 b8 soC (fun _=>rfl) (fun _=>True) (fun _ _ _ ht _=>by obtain ⟨x,hx⟩:=pair_inU Tryz.underlying125 kz125 rfl rfl ht;exact ⟨x,hx,trivial⟩);obtain ⟨aO,cO,ord,e9,_,l9,k9,r9,g9⟩:=slice_inU Tryz.underlying30 kz130 (by omega) h9 b9 orC (fun _=>rfl) (fun x=>inR x.2) (fun _ _ _ ht _=>or_inU ht);simp only[List.cons.injEq,and_true] at e0 e1 e2 e3 e4 e5 e6 e7 e8 e9;subst e0;subst e1;subst e2;subst e3;subst e4;subst e5;subst e6;subst e7;subst e8;subst e9;obtain ⟨evS,n5,q5⟩:=lists_of g5;obtain ⟨guI,n6,q6⟩:=lists_of g6;obtain ⟨miI,n7,q7⟩:=lists_of g7;refine ⟨⟨aA,nA,cA,aI,ini.length,cI,aU,nU,cU,aR,ro,cR,aS,st.length,cS,aE,ev,cE,aG,gu,cG,aM,mi,cM,aD,so,cD,aO,ord.length,cO⟩,⟨st,evS,guI,miI,ord,ini⟩,?_,
  ⟨⟨⟨r3,r5,r6,r7,r8,⟨l0,l1,l2,l3,l4,l5,l6,l7,l8,l9⟩,g3⟩,rfl,r4,n5,q5,n6,q6,n7,q7⟩,rfl,r9,g9,by simp only;omega,rfl,by rw[<-intsV_flat];exact r1⟩⟩
 rw[<-Array.toArray_toList (xs:=cs),hcs];rfl
end
section
open Go.RowKit
def valT:Tr.T->Value
 | .leaf a=>.iface 190 (.agg #[.int .i64 a])
 | .one a x=>.iface 161 (.agg #[.int .i64 a,valT x])
 | .two a x y=>.iface 164 (.agg #[.int .i64 a,valT x,valT y])
def cellT:Tr.T->Array Value
 | .leaf a=>#[.int .i64 a]
 | .one a x=>#[.int .i64 a,valT x]
 | .two a x y=>#[.int .i64 a,valT x,valT y]
def typT:Tr.T->TypeId
 | .leaf _=>190
 | .one _ _=>161
 | .two _ _ _=>164
theorem valT_eq (t:Tr.T):valT t=.iface (typT t) (.agg (cellT t)):=by cases t<;>rfl
theorem valT_one (a:Nat) (x:Tr.T):valT (.one a x)=.iface 161 (.agg #[.int .i64 a,.iface (typT x) (.agg (cellT x))]):=by rw[<-valT_eq];rfl
theorem valT_two (a:Nat) (x y:Tr.T):valT (.two a x y)=.iface 164 (.agg #[.int .i64 a,.iface (typT x) (.agg (cellT x)),.iface (typT y) (.agg (cellT y))]):=by rw[<-valT_eq,<-valT_eq];rfl
theorem node_info:(Tryz.prog.info? 102).map (fun i=>(i.zero,i.size,i.bytes))=some (some Value.nilIface,1,16):=by kernel_rfl
def rowV (row:List Tr.T):List Value:=row.reverse.map valT
theorem rowV_cons (t:Tr.T) (r:List Tr.T):rowV (t::r)=rowV r++[valT t]:=by simp[rowV]
theorem rowV_len (r:List Tr.T):(rowV r).length=r.length:=by simp[rowV]
theorem own_take {w:World} {base n k c:Nat} {e:TypeId} {A:Option Addr} {xs:List Value} (h:w.ownsRow base e 1 (.slice A n c) n xs) (hk:k<=n):w.ownsRow base e 1 (.slice A k c) k (xs.take k):=by
 obtain ⟨h1,h2⟩:=h;refine ⟨by rw[List.length_take];omega,?_⟩;rcases h2 with ⟨h3,h4⟩ | ⟨g,cap,cur,hv,hg,hh,hc,hm,hs,ht⟩
 ·injection h3 with hA hn hcc;subst hA;subst hcc;obtain rfl:k=0:=by omega
  exact .inl ⟨rfl,rfl⟩
 ·injection hv with hA hn hcc;subst hA;subst hcc;refine .inr ⟨g,c,cur,rfl,hg,hh,by omega,hm,hs,?_⟩;rw[<-ht,List.take_take];congr 1;omega
def Pushed (base:Nat) (v:Value) (row:Option (List Tr.T)) (w:World) (e:Ending) (w':World):Prop:=
 match row with
 | none=>e=.returned (.tuple #[v,.bool false])/\Chg (fun _=>False) w w'
 | some r=>∃ v',e=.returned (.tuple #[v',.bool true])/\w'.ownsRow base 102 1 v' r.length (rowV r)/\Chg (fun k=>v.ownBlock=some k) w w'
theorem node_new (t:Tr.T):∀ u ∈ [valT t],u.oneCell'=true:=by
 intro u hu;simp only[List.mem_singleton] at hu;subst hu;cases t<;>rfl
theorem push_any (w:World) (base:Nat) (v:Value) (row:List Tr.T) (op:Int) (a:Nat) (hown:w.ownsRow base 102 1 v row.length (rowV row)) (hb:base<=w.heap.size) (hl:row.length<=1000):
  Calls Tryz.prog 72 #[v,.int .i64 op,.int .i64 a] w fun e w'=>Pushed base v (Tr.push row op a) w e w':=by
 obtain ⟨A,c,rfl,hc1,hc2⟩:=own_slice hown;have H:=zI hown;clear hown;obtain ⟨i,hi,hzz⟩:=Option.map_eq_some_iff.1 node_info;simp only[Prod.mk.injEq] at hzz;obtain ⟨hz0,hz1,hz2⟩:=hzz;obtain ⟨n,hn⟩:∃ n,n=row.length:=⟨_,rfl⟩;rw[<-hn] at H hl hc1;rw[<-hn];replace hn:=zI hn;rcases Tr.arity_range op with h0 | h0 | h0 | h0
 ·replace h0:=zI h0;have hp:Tr.push row op a=none:=by unfold Tr.push;rw[if_neg (by rw[h0.out];decide),if_neg (by rw[h0.out];decide),if_neg (by rw[h0.out];decide)]
  rw[hp];clear hp;go_enter Tryz.func72,Tryz.ntmps72;go_wp2_with (go_at_call 103;refine (arity_any _ _).mono ?_;rintro e w' ⟨rfl,rfl⟩;rw[h0.out])
  go_ret2
  exact ⟨rfl,Chg.refl _ _⟩
 ·replace h0:=zI h0;have hp:Tr.push row op a=some (.leaf a::row):=by unfold Tr.push;rw[if_pos h0.out]
  rw[hp];clear hp;go_enter Tryz.func72,Tryz.ntmps72;go_wp2_with (first | (go_at_call 103;refine (arity_any _ _).mono ?_;rintro e w' ⟨rfl,rfl⟩;rw[h0.out]) | (at_builtin;refine wpList_append_lies _ rfl (.tmp 17) (.tmp 21) 155 rfl base 102 i _ 1 16 Tryz.underlying155 hi hz0 hz1 hz2 rfl (by omega) (.slice A n c) n (rowV row) rfl (by exact World.ownsRow.alloc (w:=w) H.out _) ⟨w.heap.size,0,none⟩ 1 1 [valT (.leaf a)] rfl rfl (by exact all_new (Blk.new w 102 #[valT (.leaf a)])) (node_new _) (by omega) (by unfold maxLen;omega) (by omega) (by simp;omega) (w.heap.size+1) (by simp) ?_;intro g cap w3 hown3 hg3 hat3 hlt3;have HO:=zI hown3;have HC:Hid (Chg (fun k=>Value.ownBlock (.slice A n c)=some k) w w3):=Chg.grown ((Chg.refl _ w).alloc _) hg3 (fun k hk=>.inl hk);clear hown3 hg3 hat3 hlt3))
  go_ret2
  refine ⟨_,rfl,?_,HC.out⟩;rw[rowV_cons,List.length_cons,<-hn.out];exact HO.out
 ·replace h0:=zI h0
  match row,hn with
  | [],hn=>
   have hp:Tr.push [] op a=none:=by unfold Tr.push;rw[if_neg (by rw[h0.out];decide),if_pos h0.out]
   rw[hp];clear hp;obtain rfl:=hn.out;go_enter Tryz.func72,Tryz.ntmps72;go_wp2_with (go_at_call 103;refine (arity_any _ _).mono ?_;rintro e w' ⟨rfl,rfl⟩;rw[h0.out])
   go_ret2
   exact ⟨rfl,Chg.refl _ _⟩
  | x::r,hn=>
   have hp:Tr.push (x::r) op a=some (.one a x::r):=by unfold Tr.push;rw[if_neg (by rw[h0.out];decide),if_pos h0.out]
   rw[hp];clear hp;obtain rfl:=hn.out;clear hn;obtain ⟨g0,c0,hv,hglt,_,_,hcell⟩:=own_form H.out (by simp);injection hv with hA _ hcc;subst hA;subst hcc;have hx:w.cell? ⟨g0,r.length,none⟩=some (.iface (typT x) (.agg (cellT x))):=by
    rw[<-valT_eq];rw[hcell r.length (by simp),rowV_cons,List.getElem?_append_right (by rw[rowV_len];exact Nat.le_refl _),rowV_len,Nat.sub_self];rfl
   have HT:=zI (own_take (k:=r.length) H.out (by simp));clear hcell;rw[rowV_cons] at HT;have ht:(rowV r++[valT x]).take r.length=rowV r:=by rw[List.take_append_of_le_length (by rw[rowV_len];exact Nat.le_refl _),List.take_of_length_le (by rw[rowV_len];exact Nat.le_refl _)]
   rw[ht] at HT;clear ht;rw[List.length_cons] at hc1 hl |-;clear H;have hd:decide ((1:Int)<=(r.length:Int)+1)=true:=by rw[dT];omega
   have hw:IntKind.i64.wrap (r.length:Int)=(r.length:Int):=IntWalk.i64_in _ (by omega);have hk1:(0:Int)<=(r.length:Int):=by omega
   have hk2:(r.length:Int)<=(c:Int):=by omega
   have hk3:(r.length:Int) < (r.length:Int)+1:=by omega
   go_enter Tryz.func72,Tryz.ntmps72;go_wp2_with (go_at_call 103;refine (arity_any _ _).mono ?_;rintro e w' ⟨rfl,rfl⟩;rw[h0.out])
   go_region_law (refine step_append_lies _ rfl (.tmp 33) (.tmp 42) 155 rfl base 102 i _ 1 16 Tryz.underlying155 hi hz0 hz1 hz2 rfl (by omega) (.slice (some ⟨g0,0,none⟩) r.length c) r.length (rowV r) rfl (by exact World.ownsRow.alloc (w:=w.drew) HT.out _) ⟨w.heap.size,0,none⟩ 1 1 [valT (.one a x)] rfl rfl (by rw[valT_one];exact all_new (Blk.new w.drew 102 _)) (node_new _) (by omega) (by unfold maxLen;omega) (by omega) (by simp;omega) (w.heap.size+1) (by simp) ?_;intro g cap w3 hown3 hg3 hat3 hlt3;have HO:=zI hown3;have HC:Hid (Chg (fun k=>k=g0) w w3):=Chg.grown (((Chg.refl _ w).alloc _).drew) hg3 (fun k hk=>.inl (by simp[Value.ownBlock] at hk;exact hk.symm));clear hown3 hg3 hat3 hlt3)
   all_goals (go_wp2;go_ret2;refine ⟨_,rfl,?_,?_⟩)
   all_goals first | (rw[rowV_cons,List.length_cons];exact HO.out) | exact HC.out.mono (fun k _ hk=>by simp[Value.ownBlock,hk])
 ·replace h0:=zI h0
  match row,hn with
  | [],hn=>
   have hp:Tr.push [] op a=none:=by unfold Tr.push;rw[if_neg (by rw[h0.out];decide),if_neg (by rw[h0.out];decide),if_pos h0.out]
   rw[hp];clear hp;obtain rfl:=hn.out;go_enter Tryz.func72,Tryz.ntmps72;go_wp2_with (go_at_call 103;refine (arity_any _ _).mono ?_;rintro e w' ⟨rfl,rfl⟩;rw[h0.out])
   go_ret2
   exact ⟨rfl,Chg.refl _ _⟩
  | [x],hn=>
   have hp:Tr.push [x] op a=none:=by unfold Tr.push;rw[if_neg (by rw[h0.out];decide),if_neg (by rw[h0.out];decide),if_pos h0.out]
   rw[hp];clear hp;obtain rfl:=hn.out;go_enter Tryz.func72,Tryz.ntmps72;go_wp2_with (go_at_call 103;refine (arity_any _ _).mono ?_;rintro e w' ⟨rfl,rfl⟩;rw[h0.out])
   go_ret2
   exact ⟨rfl,Chg.refl _ _⟩
  | y::x::r,hn=>
   have hp:Tr.push (y::x::r) op a=some (.two a x y::r):=by unfold Tr.push;rw[if_neg (by rw[h0.out];decide),if_neg (by rw[h0.out];decide),if_pos h0.out]
   rw[hp];clear hp;obtain rfl:=hn.out;clear hn;obtain ⟨g0,c0,hv,hglt,_,_,hcell⟩:=own_form H.out (by simp);injection hv with hA _ hcc;subst hA;subst hcc;have hx:w.cell? ⟨g0,r.length,none⟩=some (.iface (typT x) (.agg (cellT x))):=by
    rw[<-valT_eq];rw[hcell r.length (by simp;omega),rowV_cons,rowV_cons,List.append_assoc,List.getElem?_append_right (by rw[rowV_len];exact Nat.le_refl _),rowV_len,Nat.sub_self];rfl
   have hy:w.cell? ⟨g0,r.length+1,none⟩=some (.iface (typT y) (.agg (cellT y))):=by
    rw[<-valT_eq];rw[hcell (r.length+1) (by simp),rowV_cons,rowV_cons,List.append_assoc,List.getElem?_append_right (by rw[rowV_len];omega),rowV_len,show r.length+1 - r.length=1 by omega];rfl
   have HT:=zI (own_take (k:=r.length) H.out (by simp;omega));clear hcell;rw[rowV_cons,rowV_cons,List.append_assoc] at HT;have ht:(rowV r++([valT x]++[valT y])).take r.length=rowV r:=by rw[List.take_append_of_le_length (by rw[rowV_len];exact Nat.le_refl _),List.take_of_length_le (by rw[rowV_len];exact Nat.le_refl _)]
   rw[ht] at HT;clear ht;rw[List.length_cons,List.length_cons] at hc1 hl |-;clear H;have hd:decide ((2:Int)<=(r.length:Int)+1+1)=true:=by rw[dT];omega
   have hw:IntKind.i64.wrap ((r.length:Int)+1+1 - 2)=(r.length:Int):=(IntWalk.i64_in _ (by omega)).trans (by omega);have hw2:IntKind.i64.wrap ((r.length:Int)+1)=(r.length:Int)+1:=IntWalk.i64_in _ (by omega);have hk1:(0:Int)<=(r.length:Int):=by omega
   have hk2:(r.length:Int)<=(c:Int):=by omega
   have hk3:(r.length:Int) < (r.length:Int)+1+1:=by omega
   have hk4:(r.length:Int)+1 < (r.length:Int)+1+1:=by omega
   have hk5:(0:Int)<=(r.length:Int)+1:=by omega
   go_enter Tryz.func72,Tryz.ntmps72;go_wp2_with (go_at_call 103;refine (arity_any _ _).mono ?_;rintro e w' ⟨rfl,rfl⟩;rw[h0.out])
   go_region_law (refine step_append_lies _ rfl (.tmp 54) (.tmp 68) 155 rfl base 102 i _ 1 16 Tryz.underlying155 hi hz0 hz1 hz2 rfl (by omega) (.slice (some ⟨g0,0,none⟩) r.length c) r.length (rowV r) rfl (by exact World.ownsRow.alloc (w:=w.drew) HT.out _) ⟨w.heap.size,0,none⟩ 1 1 [valT (.two a x y)] rfl rfl (by rw[valT_two];exact all_new (Blk.new w.drew 102 _)) (node_new _) (by omega) (by unfold maxLen;omega) (by omega) (by simp;omega) (w.heap.size+1) (by simp) ?_;intro g cap w3 hown3 hg3 hat3 hlt3;have HO:=zI hown3;have HC:Hid (Chg (fun k=>k=g0) w w3):=Chg.grown (((Chg.refl _ w).alloc _).drew) hg3 (fun k hk=>.inl (by simp[Value.ownBlock] at hk;exact hk.symm));clear hown3 hg3 hat3 hlt3)
   all_goals (go_wp2;go_ret2;refine ⟨_,rfl,?_,?_⟩)
   all_goals first | (rw[rowV_cons,List.length_cons];exact HO.out) | exact HC.out.mono (fun k _ hk=>by simp[Value.ownBlock,hk])
def endF:Tr.T->Nat
 | .leaf _=>153
 | .one _ _=>149
 | .two _ _ _=>151
theorem end_leaf (a:Nat) (w:World):Calls Tryz.prog 153 #[.agg #[.int .i64 a]] w fun e w'=>e=.returned (.int .i64 a)/\Chg (fun _=>False) w w':=by
 go_enter Tryz.func153,Tryz.ntmps153;go_wp2
 go_ret;exact ⟨rfl,(Chg.refl _ w).alloc _⟩
theorem end_one (a:Nat) (u:Value) (w:World):Calls Tryz.prog 149 #[.agg #[.int .i64 a,u]] w fun e w'=>e=.returned (.int .i64 a)/\Chg (fun _=>False) w w':=by
 go_enter Tryz.func149,Tryz.ntmps149;go_wp2
 go_ret;exact ⟨rfl,(Chg.refl _ w).alloc _⟩
theorem end_two (a:Nat) (u v:Value) (w:World):Calls Tryz.prog 151 #[.agg #[.int .i64 a,u,v]] w fun e w'=>e=.returned (.int .i64 a)/\Chg (fun _=>False) w w':=by
 go_enter Tryz.func151,Tryz.ntmps151;go_wp2
 go_ret;exact ⟨rfl,(Chg.refl _ w).alloc _⟩
theorem end_any (t:Tr.T) (w:World):Calls Tryz.prog (endF t) #[.agg (cellT t)] w fun e w'=>e=.returned (.int .i64 t.endOf)/\Chg (fun _=>False) w w':=by
 cases t with
 | leaf a=>exact end_leaf a w
 | one a x=>exact end_one a _ w
 | two a x y=>exact end_two a _ _ w
theorem method_end (t:Tr.T) (w:World):(method 332 (typT t) (.agg (cellT t)) "warder/tree.end").run Tryz.prog w=.ok (endF t,.agg (cellT t)) w:=by cases t<;>kernel_rfl
theorem call_end (t:Tr.T) (args:Array Value) (w:World):(callFunc (endF t) args).run Tryz.prog w=.ok (.enter (endF t) args) w:=by cases t<;>kernel_rfl
end
end Go.Proofs.YthohgagkjnbkbaaGreat
