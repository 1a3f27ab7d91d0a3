/- FragTrue, part 0: Lib Args RgOrder RgMade. Each theorem says what a function does, or a plain fact, under its own premises alone. -/
import Derived.Test.YthohgagkjnbkbaaGreatRows
import Derived.WalkKit
import Derived.WalkSpells
import Derived.WalkLawsBesides
import Derived.Lib.Hide
import Derived.Laws.OwnMore
import Derived.Laws.Rows
import Derived.Deep.AppendLies
import Derived.Deep.Draws
import Derived.Deep.Slices
import Derived.ProofKit
import Derived.Orders
import Derived.Laws.BitsLemmas
import Derived.BigQuiet
import Derived.Deep.QuietTactic
import Derived.Deep.RegionWith
import Derived.Deep.RegionLaw
import Derived.BigRegion
import Derived.Deep.OwnRows
import Derived.DeepKeys4
import Derived.OpenShut
import Derived.JoinedCond
import Derived.Below
set_option maxRecDepth 100000
set_option maxHeartbeats 16000000
namespace Go.Proofs.YthohgagkjnbkbaaGreat
section
open Go.RowKit
theorem zI {p : Prop} (h : p) : Hid p := Lib.hid h
theorem dF {p : Prop} [Decidable p] : decide p = false ↔ ¬p := decide_eq_false_iff_not
theorem dT {p : Prop} [Decidable p] : decide p = true ↔ p := decide_eq_true_iff
theorem bF {α : Type} [BEq α] [LawfulBEq α] {a b : α} : (a == b) = false ↔ a ≠ b := beq_eq_false_iff_ne
theorem gG {α : Type} {l : List α} {i : Nat} (h : i < l.length) : l[i]? = some l[i] := List.getElem?_eq_getElem h
structure Chg (S:Nat->Prop) (w w':World):Prop where
 os:w'.os=w.os
 tape:w'.tape=w.tape
 output:w'.output=w.output
 size:w.heap.size<=w'.heap.size
 block:∀ k,k < w.heap.size->¬ S k->w'.heap[k]?=w.heap[k]?
section
variable {S T:Nat->Prop} {a b c w w':World}
theorem Chg.refl (S:Nat->Prop) (w:World):Chg S w w:=⟨rfl,rfl,rfl,Nat.le_refl _,fun _ _ _=>rfl⟩
theorem Chg.trans (h:Chg S a b) (k:Chg T b c) (hT:∀ i,i < a.heap.size->T i->S i):Chg S a c:=
 ⟨k.os.trans h.os,k.tape.trans h.tape,k.output.trans h.output,Nat.le_trans h.size k.size,fun i hi hn=>(k.block i (Nat.lt_of_lt_of_le hi h.size) (fun ht=>hn (hT i hi ht))).trans (h.block i hi hn)⟩
theorem Ct {S:Nat->Prop} {w w1 w2:World} (a:Chg S w w1) (b:Chg S w1 w2):Chg S w w2:=Chg.trans a b (fun _ _ h=>h)
theorem Chg.mono (h:Chg S a b) (hT:∀ i,i < a.heap.size->S i->T i):Chg T a b:=
 ⟨h.os,h.tape,h.output,h.size,fun i hi hn=>h.block i hi (fun hs=>hn (hT i hi hs))⟩
theorem Chg.drew (h:Chg S a w):Chg S a w.drew:=⟨h.os,h.tape,h.output,h.size,h.block⟩
theorem Chg.drewN (h:Chg S a w) (n:Nat):Chg S a (w.drewN n):=⟨h.os,h.tape,h.output,h.size,h.block⟩
theorem Chg.alloc (h:Chg S a w) (o:Obj):Chg S a (w.alloc o):=
 ⟨h.os,h.tape,h.output,Nat.le_trans h.size (by simp),fun i hi hn=>(Below.heap_alloc w o i (Nat.lt_of_lt_of_le hi h.size)).trans (h.block i hi hn)⟩
theorem Chg.setCell (h:Chg S a w) {p:Addr} (hp:S p.block\/a.heap.size<=p.block) (u:Value):Chg S a (w.setCell p u):=
 ⟨h.os,h.tape,h.output,by simpa [World.setCell] using h.size,fun i hi hn=>(Below.heap_setCell w p u i (by
  rintro rfl;rcases hp with hp | hp
  ·exact hn hp
  ·omega)).trans (h.block i hi hn)⟩
theorem Chg.grown (h:Chg S a w) {row:Option Nat} (hg:w.grownBy w' row) (hr:∀ k,row=some k->S k\/a.heap.size<=k):Chg S a w':=
 ⟨hg.os.trans h.os,hg.tape.trans h.tape,hg.output.trans h.output,Nat.le_trans h.size hg.size,fun i hi hn=>(hg.block i (Nat.lt_of_lt_of_le hi h.size) (by
  intro e;rcases hr i e.symm with hs | hs
  ·exact hn hs
  ·omega)).trans (h.block i hi hn)⟩
theorem Chg.below (h:Chg S w w') {B:Nat} (hB:B<=w.heap.size) (hS:∀ k,S k->B<=k):Below B w w':=
 ⟨h.os,h.tape,h.output,h.size,fun k hk=>h.block k (by omega) (fun hs=>by have:=hS k hs;omega)⟩
theorem Chg.cell (h:Chg S w w') {p:Addr} (hp:p.block < w.heap.size) (hn:¬ S p.block):w'.cell? p=w.cell? p:=World.cell?_of_block (w:=w) (h.block p.block hp hn)
theorem Chg.frozen (h:Chg S w w') {p:Addr} (hp:p.block < w.heap.size) (hn:¬ S p.block):w'.frozen? p=w.frozen? p:=World.frozen?_of_block (w:=w) (h.block p.block hp hn)
end
def Blk (w:World) (g:Nat) (t:TypeId) (cs:Array Value):Prop:=w.heap[g]?=some (.cells cs t (0,0))
section
variable {S:Nat->Prop} {w w':World} {g:Nat} {t:TypeId} {cs:Array Value}
theorem Blk.lt (h:Blk w g t cs):g < w.heap.size:=by
 rcases Nat.lt_or_ge g w.heap.size with hlt | hge
 ·exact hlt
 ·unfold Blk at h;rw[Array.getElem?_eq_none hge] at h;cases h
theorem Blk.cell (h:Blk w g t cs) (i:Nat):w.cell? ⟨g,i,none⟩=cs[i]?:=cell_of_row w g i cs t (0,0) h
theorem Blk.frozen (h:Blk w g t cs) (i:Nat):w.frozen? ⟨g,i,none⟩=false:=by
 unfold Blk at h;simp[World.frozen?,h]
theorem Blk.new (w:World) (t:TypeId) (cs:Array Value):Blk (w.alloc (.cells cs t)) w.heap.size t cs:=heap_alloc_new w _
theorem Blk.drew (h:Blk w g t cs):Blk w.drew g t cs:=h
theorem Blk.drewN (h:Blk w g t cs) (n:Nat):Blk (w.drewN n) g t cs:=h
theorem Blk.alloc (h:Blk w g t cs) (o:Obj):Blk (w.alloc o) g t cs:=(Below.heap_alloc w o g h.lt).trans h
theorem Blk.set (h:Blk w g t cs) (i:Nat) (u:Value):Blk (w.setCell ⟨g,i,none⟩ u) g t (cs.setIfInBounds i u):=by
 unfold Blk at h |-;simp[World.setCell,Array.getElem?_modify,h]
theorem Blk.far (h:Blk w g t cs) {p:Addr} (hp:g ≠ p.block) (u:Value):Blk (w.setCell p u) g t cs:=(Below.heap_setCell w p u g hp).trans h
theorem Blk.below {B:Nat} (h:Blk w g t cs) (hb:Below B w w') (hg:g < B):Blk w' g t cs:=(hb.block g hg).trans h
theorem Blk.chg (h:Blk w g t cs) (hb:Chg S w w') (hg:¬ S g):Blk w' g t cs:=(hb.block g h.lt hg).trans h
theorem Blk.grown {row:Option Nat} (h:Blk w g t cs) (hb:w.grownBy w' row) (hg:some g ≠ row):Blk w' g t cs:=(hb.block g h.lt hg).trans h
theorem Blk.ne_ {g':Nat} {t':TypeId} {cs':Array Value} (h:Blk w g t cs) (h':Blk w g' t' cs') (hne:t ≠ t'):g ≠ g':=by
 rintro rfl;unfold Blk at h h';rw[h] at h';injection h' with h';injection h' with _ ht;exact hne ht
variable {base:Nat} {e:TypeId} {size n:Nat} {v:Value} {xs:List Value}
theorem own_blk_ne (h:w.ownsRow base e size v n xs) (hg:Blk w g t cs) (hne:e ≠ t):v.ownBlock ≠ some g:=by
 rcases h.2 with ⟨rfl,_⟩ | ⟨g',cap,cur,rfl,_,hh,_⟩
 ·simp[Value.ownBlock]
 ·intro he;have:g'=g:=by simpa [Value.ownBlock] using he
  subst this;exact Blk.ne_ (t:=e) hh hg hne rfl
theorem own_own_ne {e':TypeId} {n' size' base':Nat} {v':Value} {xs':List Value} (h:w.ownsRow base e size v n xs) (h':w.ownsRow base' e' size' v' n' xs') (hne:e ≠ e') (g:Nat) (hg:v.ownBlock=some g):v'.ownBlock ≠ some g:=by
 rcases h.2 with ⟨rfl,_⟩ | ⟨g1,cap,cur,rfl,_,hh,_⟩
 ·simp[Value.ownBlock] at hg
 ·have:g1=g:=by simpa [Value.ownBlock] using hg
  subst this;exact own_blk_ne h' (cs:=cur) (t:=e) hh (fun h=>hne h.symm)
theorem own_lt (h:w.ownsRow base e size v n xs) (g:Nat) (hg:v.ownBlock=some g):g < w.heap.size:=(h.lt g hg).2
theorem own_heap (h:w.ownsRow base e size v n xs) (hk:∀ g,v.ownBlock=some g->w'.heap[g]?=w.heap[g]?):w'.ownsRow base e size v n xs:=by
 obtain ⟨h1,h2⟩:=h;refine ⟨h1,?_⟩;rcases h2 with h2 | ⟨g,cap,cur,rfl,hg,hh,r⟩
 ·exact .inl h2
 ·exact .inr ⟨g,cap,cur,rfl,hg,(hk g (by simp[Value.ownBlock])).trans hh,r⟩
theorem own_chg (h:w.ownsRow base e size v n xs) (hb:Chg S w w') (hg:∀ g,v.ownBlock=some g->¬ S g):w'.ownsRow base e size v n xs:=
 own_heap h fun g he=>hb.block g (own_lt h g he) (hg g he)
theorem own_set (h:w.ownsRow base e size v n xs) {p:Addr} (hp:v.ownBlock ≠ some p.block) (u:Value):(w.setCell p u).ownsRow base e size v n xs:=
 own_heap h fun g he=>Below.heap_setCell w p u g (by rintro rfl;exact hp he)
theorem own_grown {row:Option Nat} (h:w.ownsRow base e size v n xs) (hb:w.grownBy w' row) (hg:∀ g,v.ownBlock=some g->row ≠ some g):w'.ownsRow base e size v n xs:=
 own_heap h fun g he=>hb.block g (own_lt h g he) (fun e=>hg g he e.symm)
theorem own_form (h:w.ownsRow base e 1 v n xs) (hn:0 < n):∃ g cap,v=.slice (some ⟨g,0,none⟩) n cap/\g < w.heap.size/\n<=cap/\cap<=maxLen/\∀ j,j < n->w.cell? ⟨g,j,none⟩=xs[j]?:=by
 obtain ⟨g,cap,rfl,_,hlt⟩:=h.form hn;refine ⟨g,cap,rfl,hlt,?_,?_,fun j hj=>h.cellAt j (by omega)⟩
 ·rcases h.2 with ⟨_,h0⟩ | ⟨_,_,_,he,_,_,hc,_⟩
  ·omega
  ·injection he with _ _ he;subst he;exact hc
 ·rcases h.2 with ⟨_,h0⟩ | ⟨_,_,_,he,_,_,_,hc,_⟩
  ·omega
  ·injection he with _ _ he;subst he;exact hc
theorem own_slice (h:w.ownsRow base e size v n xs):∃ A cap,v=.slice A n cap/\n<=cap/\cap<=maxLen:=by
 rcases h.2 with ⟨rfl,rfl⟩ | ⟨g,cap,cur,rfl,_,_,hc,hm,_⟩
 ·exact ⟨none,0,rfl,Nat.le_refl _,Nat.zero_le _⟩
 ·exact ⟨_,cap,rfl,hc,hm⟩
end
theorem ret_int {k:IntKind} {a b:Int} (h:a=b):Ending.returned (.int k a)=.returned (.int k b):=by rw[h]
theorem ret_val {a b:Value} (h:a=b):Ending.returned a=.returned b:=by rw[h]
theorem block_of_add (a:Addr) (n:Nat):(a.add n).block=a.block:=by unfold Addr.add;split<;>rfl
theorem add_of_add (a:Addr) (i j:Nat):(a.add i).add j=a.add (i+j):=by
 unfold Addr.add;by_cases hi:i=0<;>by_cases hj:j=0<;>simp[hi,hj,Nat.add_assoc]
theorem add_row (g o j:Nat):(⟨g,o,none⟩:Addr).add j=⟨g,o+j,none⟩:=by unfold Addr.add;split<;>simp_all
def Rd (w:World) (B:Nat) (A:Option Addr) (xs:List Value):Prop:=
 0 < xs.length->∃ ad,A=some ad/\ad.block < B/\∀ j u,xs[j]?=some u->w.cell? (ad.add j)=some u
section
variable {S:Nat->Prop} {w w':World} {B B':Nat} {A:Option Addr} {xs:List Value}
theorem Rd.keep (h:Rd w B A xs) (hk:∀ p:Addr,p.block < B->w'.cell? p=w.cell? p):Rd w' B A xs:=fun hn=>by
 obtain ⟨ad,e,hb,hc⟩:=h hn;exact ⟨ad,e,hb,fun j u hu=>(hk _ (by rw[block_of_add];exact hb)).trans (hc j u hu)⟩
theorem Rd.more (h:Rd w B A xs) (hB:B<=B'):Rd w B' A xs:=fun hn=>by
 obtain ⟨ad,e,hb,hc⟩:=h hn;exact ⟨ad,e,by omega,hc⟩
theorem Rd.below (h:Rd w B A xs) (hb:Below B w w'):Rd w' B A xs:=h.keep fun _ hp=>hb.cell hp
theorem Rd.chg (h:Rd w B A xs) (hc:Chg S w w') (hB:B<=w.heap.size) (hS:∀ k,S k->B<=k):Rd w' B A xs:=
 h.keep fun p hp=>hc.cell (by omega) (fun hs=>by have:=hS _ hs;omega)
theorem Rd.drewN (h:Rd w B A xs) (k:Nat):Rd (w.drewN k) B A xs:=h
theorem Rd.alloc (h:Rd w B A xs) (hB:B<=w.heap.size) (o:Obj):Rd (w.alloc o) B A xs:=h.keep fun p hp=>World.cell?_alloc_lt w o p (by omega)
theorem Rd.setCell (h:Rd w B A xs) {p:Addr} (hB:B<=p.block) (u:Value):Rd (w.setCell p u) B A xs:=
 h.keep fun q hq=>World.cell?_setCell_other w p q u (fun e=>by subst e;omega)
theorem Rd.at {k:Nat} (h:Rd w B A xs) (hk:k < xs.length):∃ ad,A=some ad/\ad.block < B/\w.cell? (ad.add k)=some xs[k]:=by
 obtain ⟨ad,e,hb,hc⟩:=h (by omega);exact ⟨ad,e,hb,hc k _ (gG hk)⟩
theorem own_rd {base n c:Nat} {e:TypeId} (h:w.ownsRow base e 1 (.slice A n c) n xs):Rd w w.heap.size A xs:=fun hn=>by
 have hl:=h.1;obtain ⟨g,cap,hv,hlt,_,_,hcell⟩:=own_form h (by omega);injection hv with hA _ _;refine ⟨_,hA,hlt,fun j u hu=>?_⟩;rw[add_row,Nat.zero_add,hcell j (by have:=(List.getElem?_eq_some_iff.1 hu).1;omega)];exact hu
theorem Rd.plain (h:Rd w B A xs) (hn:0 < xs.length):∃ b o,A=some ⟨b,o,none⟩/\b < B/\∀ j u,xs[j]?=some u->w.cell? ⟨b,o+j,none⟩=some u:=by
 obtain ⟨⟨b,o,sp⟩,rfl,hb,hc⟩:=h hn;have h0:=hc 0 _ (gG hn);have hsp:sp=none:=by simpa [Addr.add] using World.cell?_spot h0
 subst hsp;exact ⟨b,o,rfl,hb,fun j u hu=>by rw[<-add_row];exact hc j u hu⟩
end
end
section
open Go.ChangeShapes Go.WideShapes Go.ChangeAt Go.RowKit Go.Deep
theorem flat_len {α:Type} {C:Nat} (f:α->List Value) (hf:∀ x,(f x).length=C):∀ l:List α,(l.flatMap f).length=l.length * C
 | []=>by simp
 | x::l=>by rw[List.flatMap_cons,List.length_append,hf,flat_len f hf l,List.length_cons,Nat.add_mul,Nat.one_mul,Nat.add_comm]
theorem flat_get {α:Type} {C:Nat} (f:α->List Value) (hf:∀ x,(f x).length=C):∀ (l:List α) (i r:Nat) (hi:i < l.length),r < C->(l.flatMap f)[i * C+r]?=(f l[i])[r]?
 | x::l,0,r,_,hr=>by
  rw[List.flatMap_cons,List.getElem?_append_left (by rw[hf];omega)];simp
 | x::l,i+1,r,hi,hr=>by
  have hm:(i+1) * C=i * C+C:=Nat.succ_mul i C;rw[List.flatMap_cons,List.getElem?_append_right (by rw[hf];omega),hf];have e:(i+1) * C+r - C=i * C+r:=by omega
  rw[e,flat_get f hf l i r (by simpa using hi) hr];rfl
theorem build_list {α:Type} {P:Nat->α->Prop}:∀ n:Nat,(∀ i,i < n->∃ x,P i x)->∃ l:List α,l.length=n/\∀ i (hi:i < l.length),P i l[i]
 | 0,_=>⟨[],rfl,fun i hi=>by simp at hi⟩
 | n+1,h=>by
  obtain ⟨l,hl,hP⟩:=build_list n (fun i hi=>h i (by omega));obtain ⟨x,hx⟩:=h n (by omega);refine ⟨l++[x],by simp[hl],fun i hi=>?_⟩;rw[List.length_append,List.length_singleton] at hi;rcases Nat.lt_or_ge i l.length with h1 | h1
  ·rw[List.getElem_append_left h1];exact hP i h1
  ·obtain rfl:i=l.length:=by omega
   rw[List.getElem_append_right (Nat.le_refl _)];simpa [hl] using hx
end
theorem cnt_set:∀ (l:List Bool) (i:Nat),l[i]?=some false->(l.set i true).count false+1=l.count false
 | b::l,0,h=>by
  have:b=false:=by simpa using h
  subst this;simp
 | b::l,i+1,h=>by
  have:=cnt_set l i (by simpa using h);cases b<;>simp<;>omega
section
variable {P:Program} {ops:Array Oper} {Q:Exit->Act->World->Prop} {md:Region.Mode}
theorem cnt_none {listed:Array Bool} (h:listed.toList.count false=0) (j:Nat):listed.getD j true=true:=by
 cases hj:listed.getD j true with
 | true=>rfl
 | false=>
  have hl:j < listed.size:=by
   rcases Nat.lt_or_ge j listed.size with h1 | h1
   ·exact h1
   ·simp[Array.getElem?_eq_none h1] at hj
  have hm:false ∈ listed.toList:=by
   rw[Array.mem_toList_iff];have:listed[j]=false:=by simpa [hl] using hj
   exact this ▸ Array.getElem_mem hl
  exact absurd h (Nat.ne_of_gt (List.count_pos_iff.2 hm))
theorem ready_listed {listed:Array Bool} (hlt:∀ (i:Nat) o,ops[i]?=some o->∀ e ∈ o.after,e.on < i) (hsz:listed.size=ops.size) (hr:Region.ready md ops listed=[]):∀ (n i:Nat),i < n->i < ops.size->listed.getD i false=true
 | n+1,i,hin,hi=>by
  cases hl:listed.getD i false with
  | true=>rfl
  | false=>
   have hm:i ∈ Region.ready md ops listed:=by
    rw[mem_ready];refine ⟨?_,ops[i],Array.getElem?_eq_getElem hi,fun e he _=>?_⟩
    ·have hil:i < listed.size:=by omega
     simpa [hil] using hl
    ·have h1:=hlt i _ (Array.getElem?_eq_getElem hi) e he;exact ready_listed hlt hsz hr n e.on (by omega) (by omega)
   rw[hr] at hm;cases hm
theorem wpAny_inv (I:Array Bool->Act->World->Prop) (hlt:∀ (i:Nat) o,ops[i]?=some o->∀ e ∈ o.after,e.on < i)
  (step:∀ listed a w,I listed a w->∀ (i:Nat) o,ops[i]?=some o->listed.getD i true=false->(∀ e ∈ o.after,Region.binds md e=true->listed.getD e.on false=true)->wpOp P ops Q i (I (listed.setIfInBounds i true)) a w)
  (done:∀ listed a w,I listed a w->(∀ i,i < ops.size->listed.getD i false=true)->Q .normal a w):
  ∀ (fuel:Nat) (listed:Array Bool) (a:Act) (w:World),listed.size=ops.size->listed.toList.count false<=fuel->I listed a w->wpAny P md ops Q fuel listed a w:=by
 intro fuel
 induction fuel with
 | zero=>
  intro listed a w hsz hc hI;have hr:Region.ready md ops listed=[]:=by
   rw[List.eq_nil_iff_forall_not_mem];intro j hj;have h1:=(mem_ready.1 hj).1;rw[cnt_none (by omega) j] at h1;cases h1
  exact ⟨hr,done listed a w hI (fun i hi=>ready_listed hlt hsz hr (i+1) i (by omega) hi)⟩
 | succ fuel ih=>
  intro listed a w hsz hc hI;refine ⟨fun hr=>done listed a w hI (fun i hi=>ready_listed hlt hsz hr (i+1) i (by omega) hi),fun i hi=>?_⟩;obtain ⟨h0,o,ho,ha⟩:=mem_ready.1 hi;refine wpOp_mono (fun a' w' hI'=>ih _ a' w' (by simpa using hsz) ?_ hI') (step listed a w hI i o ho h0 ha);have hil:i < listed.size:=by
   rcases Nat.lt_or_ge i listed.size with h1 | h1
   ·exact h1
   ·simp[Array.getElem?_eq_none h1] at h0
  have hget:listed.toList[i]?=some false:=by
   rw[Array.getElem?_toList,Array.getElem?_eq_getElem hil];simpa [hil] using h0
  have:=cnt_set listed.toList i hget;rw[Array.toList_setIfInBounds];omega
end
def putAll (t:Array Value):List Nat->(Nat->Value)->Array Value
 | [],_=>t
 | d::ds,f=>putAll (t.setIfInBounds d (f d)) ds f
theorem putAll_size:∀ (ds:List Nat) (t:Array Value) (f:Nat->Value),(putAll t ds f).size=t.size
 | [],_,_=>rfl
 | d::ds,t,f=>by rw[putAll,putAll_size ds];simp
theorem putAll_far:∀ (ds:List Nat) (t:Array Value) (f:Nat->Value) (s:Nat),s ∉ ds->(putAll t ds f)[s]?=t[s]?
 | [],_,_,_,_=>rfl
 | d::ds,t,f,s,h=>by
  rw[putAll,putAll_far ds _ f s (fun hm=>h (List.mem_cons_of_mem _ hm)),Array.getElem?_setIfInBounds_ne];rintro rfl;exact h List.mem_cons_self
theorem putAll_at:∀ (ds:List Nat) (t:Array Value) (f:Nat->Value) (s:Nat),s ∈ ds->s < t.size->(putAll t ds f)[s]?=some (f s)
 | d::ds,t,f,s,h,hs=>by
  rw[putAll];by_cases hd:s ∈ ds
  ·exact putAll_at ds _ f s hd (by simpa using hs)
  ·rw[putAll_far ds _ f s hd];obtain rfl:s=d:=by
    rcases List.mem_cons.1 h with h | h
    ·exact h
    ·exact absurd h hd
   simp[hs]
theorem putAll_set (t:Array Value) (ds:List Nat) (f:Nat->Value) (d:Nat) (v:Value) (hd:d ∈ ds):(putAll t ds f).setIfInBounds d v=putAll t ds (fun s=>if s=d then v else f s):=by
 apply Array.ext
 ·rw[Array.size_setIfInBounds,putAll_size,putAll_size]
 ·intro i h1 h2;have hi:i < t.size:=by rwa [putAll_size] at h2
  have key:((putAll t ds f).setIfInBounds d v)[i]?=(putAll t ds (fun s=>if s=d then v else f s))[i]?:=by
   by_cases hid:i=d
   ·subst hid;rw[putAll_at ds t _ i hd hi,if_pos rfl];simp[putAll_size,hi]
   ·rw[Array.getElem?_setIfInBounds_ne (fun h=>hid h.symm)];by_cases him:i ∈ ds
    ·rw[putAll_at ds t _ i him hi,putAll_at ds t _ i him hi,if_neg hid]
    ·rw[putAll_far ds t _ i him,putAll_far ds t _ i him]
  rw[Array.getElem?_eq_getElem h1,Array.getElem?_eq_getElem h2] at key;injection key
theorem putAll_same:∀ (ds:List Nat) (t:Array Value),putAll t ds (fun s=>t.getD s undef)=t:=by
 intro ds t;apply Array.ext
 ·rw[putAll_size]
 ·intro i h1 h2;have key:(putAll t ds (fun s=>t.getD s undef))[i]?=t[i]?:=by
   by_cases him:i ∈ ds
   ·rw[putAll_at ds t _ i him h2,Array.getElem?_eq_getElem h2];simp[h2]
   ·rw[putAll_far ds t _ i him]
  rw[Array.getElem?_eq_getElem h1,Array.getElem?_eq_getElem h2] at key;injection key
section
open Go.RowKit
section
variable {P:Program} {ops:Array Oper} {Q:Exit->Act->World->Prop} {a:Act} {w w':World} {i:Nat} {o:Oper} {K:Act->World->Prop}
theorem wpOp_value {v:Value} (ho:ops[i]?=some o) (hg:o.guard=none) (hrun:(execOp a.eval o).run P w=.ok (.value v) w') (hk:K (a.put o.dst v) w'):wpOp P ops Q i K a w:=by
 unfold wpOp;rw[ho];have hw:Region.wanted o (yielded ops a.tmps)=true:=by simp[Region.wanted,hg]
 show if Region.wanted o (yielded ops a.tmps)=true then _ else _;rw[if_pos hw];left;unfold Oper.wp;rw[hrun];exact hk
theorem wpOp_skip (ho:ops[i]?=some o) (hg:o.guard=none) (hrun:(execOp a.eval o).run P w=.ok .skip w') (hk:K (a.put o.dst undef) w'):wpOp P ops Q i K a w:=by
 unfold wpOp;rw[ho];have hw:Region.wanted o (yielded ops a.tmps)=true:=by simp[Region.wanted,hg]
 show if Region.wanted o (yielded ops a.tmps)=true then _ else _;rw[if_pos hw];left;unfold Oper.wp;rw[hrun];exact hk
theorem wpOp_skip0 (ho:ops[i]?=some o) (hg:o.guard=none) (hrun:(execOp a.eval o).run P w=.ok .skip w') (hd:o.dst=none) (hk:K a w'):wpOp P ops Q i K a w:=
 wpOp_skip ho hg hrun (by rw[hd];exact hk)
theorem wpOp_enter {f:FuncId} {args:Array Value} (ho:ops[i]?=some o) (hg:o.guard=none) (hrun:(execOp a.eval o).run P w=.ok (.enter f args) w) (hk:Calls P f args w fun e w'=>∃ v,e=.returned v/\K (a.put o.dst v) w'):wpOp P ops Q i K a w:=by
 unfold wpOp;rw[ho];have hw:Region.wanted o (yielded ops a.tmps)=true:=by simp[Region.wanted,hg]
 show if Region.wanted o (yielded ops a.tmps)=true then _ else _;rw[if_pos hw];left;unfold Oper.wp;rw[hrun];refine Calls.mono hk ?_;rintro e w'' ⟨v,rfl,h⟩;exact h
end
def dn (ops:Array Oper) (i:Nat):List Nat:=match ops[i]? with
 | some o=>(o.after.toList.filter (Region.binds .any)).map (·.on)
 | none=>[]
def cov (ops:Array Oper):Nat->List Nat->List Nat
 | 0,s=>s
 | i+1,s=>cov ops i (if s.contains i then s++dn ops i else s)
def laterB (ops:Array Oper):Bool:=(List.range ops.size).all fun i=>match ops[i]? with
 | some o=>o.after.all fun e=>decide (e.on < i)
 | none=>true
theorem laterB_spec {ops:Array Oper} (h:laterB ops=true) (i:Nat) (o:Oper) (ho:ops[i]?=some o):∀ e ∈ o.after,e.on < i:=by
 intro e he;unfold laterB at h;rw[List.all_eq_true] at h;have h1:=h i (List.mem_range.2 (Array.getElem?_eq_some_iff.1 ho).1);rw[ho] at h1;dsimp only at h1;rw[Array.all_eq_true_iff_forall_mem] at h1;exact of_decide_eq_true (h1 e he)
def sinkB (ops:Array Oper) (n:Nat):Bool:=(List.range n).all fun j=>(cov ops n (dn ops n)).contains j
def Clos (ops:Array Oper) (listed:Array Bool):Prop:=∀ j,listed.getD j false=true->∀ k ∈ dn ops j,listed.getD k false=true
theorem cov_listed {ops:Array Oper} {listed:Array Bool} (hc:Clos ops listed):∀ (n:Nat) (s:List Nat),(∀ j ∈ s,listed.getD j false=true)->∀ j ∈ cov ops n s,listed.getD j false=true
 | 0,s,h=>h
 | n+1,s,h=>by
  unfold cov;refine cov_listed hc n _ ?_;split
  ·rename_i hs;intro j hj;rcases List.mem_append.1 hj with hj | hj
   ·exact h j hj
   ·exact hc n (h n (by simpa using hs)) j hj
  ·exact h
def atF (f:Nat->Value):Option Nat->Value
 | some d=>f d
 | none=>undef
def dstB (ops:Array Oper) (L:List (Option Nat)) (ds:List Nat) (m:Nat):Bool:=
 (ops.toList.map (·.dst) ==L) && ((L.filterMap id) ==ds) && (ds.all fun d=>decide (d < m)) && (decide (ds.Nodup))
theorem filt_nodup:∀ (L:List (Option Nat)),(L.filterMap id).Nodup->∀ (i j d:Nat),L[i]?=some (some d)->L[j]?=some (some d)->i=j
 | [],_,i,j,d,hi,_=>by simp at hi
 | x::L,hn,i,j,d,hi,hj=>by
  have hm:∀ k,L[k]?=some (some d)->d ∈ L.filterMap id:=fun k hk=>by
   rw[List.mem_filterMap];exact ⟨some d,List.mem_of_getElem? hk,rfl⟩
  cases x with
  | none=>
   have hn':(L.filterMap id).Nodup:=by simpa using hn
   cases i with
   | zero=>simp at hi
   | succ i=>cases j with
    | zero=>simp at hj
    | succ j=>rw[filt_nodup L hn' i j d (by simpa using hi) (by simpa using hj)]
  | some y=>
   have hn':y ∉ L.filterMap id/\(L.filterMap id).Nodup:=by simpa using hn
   cases i with
   | zero=>
    have hy:y=d:=by simpa using hi
    cases j with
    | zero=>rfl
    | succ j=>exact absurd (hm j (by simpa using hj)) (by rw[<-hy];exact hn'.1)
   | succ i=>cases j with
    | zero=>
     have hy:y=d:=by simpa using hj
     exact absurd (hm i (by simpa using hi)) (by rw[<-hy];exact hn'.1)
    | succ j=>rw[filt_nodup L hn'.2 i j d (by simpa using hi) (by simpa using hj)]
section
variable {P:Program} {ops:Array Oper} {Q:Exit->Act->World->Prop} {t0:Array Value} {w0:World} {L:List (Option Nat)} {ds:List Nat} {S:Nat->Value->World->Prop} {Z:Nat->Prop}
structure RgI (L:List (Option Nat)) (ds:List Nat) (S:Nat->Value->World->Prop) (Z:Nat->Prop) (t0:Array Value) (w0:World) (listed:Array Bool) (a:Act) (w:World):Prop where
 ex:∃ f,a=⟨putAll t0 ds f,[]⟩/\∀ i,listed.getD i false=true->S i (atF f (L[i]?.join)) w
 chg:Chg Z w0 w
theorem dst_of (h:dstB ops L ds t0.size=true) {i:Nat} {o:Oper} (ho:ops[i]?=some o):L[i]?.join=o.dst:=by
 simp only[dstB,Bool.and_eq_true,beq_iff_eq] at h;rw[<-h.1.1.1];simp[ho]
theorem RgI.next (hD:dstB ops L ds t0.size=true) (mono:∀ i v w w',S i v w->Chg Z w w'->S i v w') {listed:Array Bool} {a a':Act} {w w':World} (hI:RgI L ds S Z t0 w0 listed a w) {i:Nat} {o:Oper} (ho:ops[i]?=some o) (hu:listed.getD i true=false) {v:Value} (ha:a'=a.put o.dst v) (hS:S i v w') (hu0:o.dst=none->v=undef) (hc:Chg Z w w'):RgI L ds S Z t0 w0 (listed.setIfInBounds i true) a' w':=by
 obtain ⟨f,hf,hok⟩:=hI.ex;have hd:=dst_of hD ho;have hD':=hD;simp only[dstB,Bool.and_eq_true,beq_iff_eq,decide_eq_true_eq,List.all_eq_true] at hD';obtain ⟨⟨⟨h1,h2⟩,h3⟩,h4⟩:=hD';have hil:L[i]?=some o.dst:=by rw[<-h1];simp[ho]
 refine ⟨⟨fun s=>if o.dst=some s then v else f s,?_,?_⟩,Ct hI.chg hc⟩
 ·rw[ha,hf];unfold Act.put;cases hdd:o.dst with
  | none=>simp
  | some d=>
   have hm:d ∈ ds:=by
    rw[<-h2,List.mem_filterMap];exact ⟨some d,by rw[<-hdd];exact List.mem_of_getElem? hil,rfl⟩
   dsimp only;rw[putAll_set t0 ds f d v hm];congr 2
   funext s
   by_cases e:s=d
   ·subst e;simp
   ·rw[if_neg e,if_neg (by simpa using fun e'=>e e'.symm)]
 ·intro j hj;by_cases hji:j=i
  ·subst hji;rw[hd];cases hdd:o.dst with
   | none=>rw[hu0 hdd] at hS;exact hS
   | some d=>simp only[atF,if_pos];exact hS
  ·rw[getD_set_ne false (fun e=>hji e.symm)] at hj;have h5:=mono _ _ _ _ (hok j hj) hc;have e:atF (fun s=>if o.dst=some s then v else f s) (L[j]?.join)=atF f (L[j]?.join):=by
    cases hLj:L[j]? with
    | none=>rfl
    | some x=>
     cases x with
     | none=>rfl
     | some d=>
      simp only[Option.join,atF];show (if o.dst=some d then v else f d)=f d;rw[if_neg];intro e;rw[e] at hil;rw[<-h2] at h4;exact hji (filt_nodup L h4 j i d hLj hil)
   rw[e];exact h5
def Each (T:Nat->Oper->Prop):Nat->List Oper->Prop
 | _,[]=>True
 | i,o::l=>T i o/\Each T (i+1) l
theorem Each.get {T:Nat->Oper->Prop} (l:List Oper):∀ (n i:Nat) (o:Oper),Each T n l->l[i]?=some o->T (n+i) o:=by
 induction l with
 | nil=>intro n i o _ hi;simp at hi
 | cons x l ih=>
  intro n i o h hi;cases i with
  | zero=>
   have e:x=o:=by simpa using hi
   rw[<-e];exact h.1
  | succ i=>
   have h2:=ih (n+1) i o h.2 (by simpa using hi);rwa [show n+1+i=n+(i+1) by omega] at h2
def Step (P:Program) (ops:Array Oper) (Q:Exit->Act->World->Prop) (L:List (Option Nat)) (ds:List Nat) (S:Nat->Value->World->Prop) (Z:Nat->Prop) (t0:Array Value) (w0:World) (i:Nat) (o:Oper):Prop:=
 ∀ f w,Chg Z w0 w->(∀ j,(dn ops i).contains j=true->S j (atF f (L[j]?.join)) w)->wpOp P ops Q i (fun a' w'=>∃ v,a'=(⟨putAll t0 ds f,[]⟩:Act).put o.dst v/\S i v w'/\(o.dst=none->v=undef)/\Chg Z w w') ⟨putAll t0 ds f,[]⟩ w
theorem dn_listed {listed:Array Bool} {i:Nat} {o:Oper} (ho:ops[i]?=some o) (ha:∀ e ∈ o.after,Region.binds .any e=true->listed.getD e.on false=true):∀ j ∈ dn ops i,listed.getD j false=true:=by
 intro j hj;unfold dn at hj;rw[ho] at hj;obtain ⟨e,he,rfl⟩:=List.mem_map.1 hj;have:=List.mem_filter.1 he;exact ha e (by simpa using this.1) this.2
theorem step_inv (hD:dstB ops L ds t0.size=true) (mono:∀ i v w w',S i v w->Chg Z w w'->S i v w') (steps:∀ i o,ops[i]?=some o->Step P ops Q L ds S Z t0 w0 i o) {listed:Array Bool} {a:Act} {w:World} (hI:RgI L ds S Z t0 w0 listed a w) {i:Nat} {o:Oper} (ho:ops[i]?=some o) (hu:listed.getD i true=false) (ha:∀ e ∈ o.after,Region.binds .any e=true->listed.getD e.on false=true):wpOp P ops Q i (RgI L ds S Z t0 w0 (listed.setIfInBounds i true)) a w:=by
 obtain ⟨f,hf,hok⟩:=hI.ex;have h:=steps i o ho f w hI.chg (fun j hj=>hok j (dn_listed ho ha j (by simpa using hj)));rw[hf];refine wpOp_mono ?_ h;rintro a' w' ⟨v,ha',hS,hun,hc⟩;exact hI.next hD mono ho hu (by rw[ha',hf]) hS hun hc
theorem region_made {id:Nat} (hm:P.follows .mixedOrders=true) (L:List (Option Nat)) (ds:List Nat) (S:Nat->Value->World->Prop) (Z:Nat->Prop) (hl:laterB ops=true) (hD:dstB ops L ds t0.size=true) (mono:∀ i v w w',S i v w->Chg Z w w'->S i v w')
  (steps:Each (Step P ops Q L ds S Z t0 w0) 0 ops.toList) (done:∀ f w,Chg Z w0 w->(∀ i,i < ops.size->S i (atF f (L[i]?.join)) w)->Q .normal ⟨putAll t0 ds f,[]⟩ w):(Code.region id ops true).wp P Q ⟨t0,[]⟩ w0:=by
 have hst:∀ (i:Nat) o,ops[i]?=some o->Step P ops Q L ds S Z t0 w0 i o:=fun i o ho=>by
  have:=Each.get _ 0 i o steps (show ops.toList[i]?=some o by simpa using ho);rwa [Nat.zero_add] at this
 refine wp_region_any hm (wpAny_inv (I:=fun listed a w=>RgI L ds S Z t0 w0 listed a w) (laterB_spec hl) ?_ ?_ _ _ _ _ (by simp) ?_ ?_)
 ·intro listed a w hI i o ho hu ha;exact step_inv hD mono hst hI ho hu ha
 ·intro listed a w hI hall;obtain ⟨f,rfl,hok⟩:=hI.ex;exact done f w hI.chg (fun i hi=>hok i (hall i hi))
 ·rw[Array.toList_replicate,List.count_replicate_self];exact Nat.le_refl _
 ·refine ⟨⟨fun s=>t0.getD s undef,by rw[putAll_same],fun i h=>?_⟩,(Chg.refl _ _).drew⟩;by_cases hi:i < ops.size<;>simp[hi] at h
theorem region_sink {id:Nat} (hm:P.follows .mixedOrders=true) (L:List (Option Nat)) (ds:List Nat) (S:Nat->Value->World->Prop) (Z:Nat->Prop) (n:Nat) (hn:ops.size=n+1) (hl:laterB ops=true) (hD:dstB ops L ds t0.size=true) (hk:sinkB ops n=true) (mono:∀ i v w w',S i v w->Chg Z w w'->S i v w')
  (steps:Each (Step P ops Q L ds S Z t0 w0) 0 (ops.toList.take n)) (last:∀ f w,Chg Z w0 w->(∀ i,i < n->S i (atF f (L[i]?.join)) w)->wpOp P ops Q n (fun a' w'=>Q .normal a' w') ⟨putAll t0 ds f,[]⟩ w):(Code.region id ops true).wp P Q ⟨t0,[]⟩ w0:=by
 have hst:∀ (i:Nat) o,i < n->ops[i]?=some o->Step P ops Q L ds S Z t0 w0 i o:=fun i o hi ho=>by
  have:=Each.get _ 0 i o steps (show (ops.toList.take n)[i]?=some o by rw[List.getElem?_take];rw[if_pos hi];simpa using ho);rwa [Nat.zero_add] at this
 refine wp_region_any hm (wpAny_inv (I:=fun listed a w=>listed.size=n+1/\Clos ops listed/\((listed.getD n false=false/\RgI L ds S Z t0 w0 listed a w)\/((∀ j,j < n+1->listed.getD j false=true)/\Q .normal a w))) (laterB_spec hl) ?_ ?_ _ _ _ _ (by simp) ?_ ⟨by simp[hn],?_,?_⟩)
 ·rintro listed a w ⟨hsz,hcl,hI⟩ i o ho hu ha;have hi:i < n+1:=by rw[<-hn];exact (Array.getElem?_eq_some_iff.1 ho).1
  have hil:i < listed.size:=by omega
  have hu':listed.getD i false=false:=by simp[hil] at hu |-;exact hu
  have hdn:=dn_listed ho ha;have hcl2:Clos ops (listed.setIfInBounds i true):=fun j hj k hk=>by
   by_cases hji:j=i
   ·subst hji;exact getD_set_true (hdn k hk)
   ·rw[getD_set_ne false (fun e=>hji e.symm)] at hj;exact getD_set_true (hcl j hj k hk)
  rcases hI with ⟨hnl,hI⟩ | ⟨hall,hQ⟩
  ·by_cases hin:i=n
   ·subst hin;have hall:∀ j,j < i->listed.getD j false=true:=fun j hj=>by
     refine cov_listed hcl i (dn ops i) hdn j ?_;unfold sinkB at hk;have:=List.all_eq_true.1 hk j (List.mem_range.2 hj);simpa using this
    obtain ⟨f,rfl,hok⟩:=hI.ex;refine wpOp_mono ?_ (last f w hI.chg (fun j hj=>hok j (hall j hj)));intro a' w' hQ;refine ⟨by simpa using hsz,hcl2,.inr ⟨fun j hj=>?_,hQ⟩⟩;by_cases hji:j=i
    ·subst hji;simp[hil]
    ·exact getD_set_true (hall j (by omega))
   ·refine wpOp_mono ?_ (?_:wpOp P ops Q i (RgI L ds S Z t0 w0 (listed.setIfInBounds i true)) a w)
    ·intro a' w' h;exact ⟨by simpa using hsz,hcl2,.inl ⟨by rw[getD_set_ne false hin];exact hnl,h⟩⟩
    ·obtain ⟨f,hf,hok⟩:=hI.ex;have h:=hst i o (by omega) ho f w hI.chg (fun j hj=>hok j (hdn j (by simpa using hj)));rw[hf];refine wpOp_mono ?_ h;rintro a' w' ⟨v,ha',hS,hun,hc⟩;exact hI.next hD mono ho hu (by rw[ha',hf]) hS hun hc
  ·rw[hall i hi] at hu';cases hu'
 ·rintro listed a w ⟨hsz,hcl,hI⟩ hall;rcases hI with ⟨hnl,hI⟩ | ⟨_,hQ⟩
  ·rw[hall n (by omega)] at hnl;cases hnl
  ·exact hQ
 ·rw[Array.toList_replicate,List.count_replicate_self];exact Nat.le_refl _
 ·intro j hj;by_cases h:j < n+1<;>simp[hn,h] at hj
 ·refine .inl ⟨by simp[hn],⟨fun s=>t0.getD s undef,by rw[putAll_same],fun i h=>?_⟩,(Chg.refl _ _).drew⟩;by_cases hi:i < ops.size<;>simp[hi] at h
theorem slot_in (hD:dstB ops L ds t0.size=true) {f:Nat->Value} {s:Nat} (hs:ds.contains s=true):((⟨putAll t0 ds f,[]⟩:Act).tmps[s]?).getD undef=f s:=by
 simp only[dstB,Bool.and_eq_true,beq_iff_eq,decide_eq_true_eq,List.all_eq_true] at hD;have hm:s ∈ ds:=by simpa using hs
 dsimp only;rw[putAll_at ds t0 f s hm (hD.1.2 s hm)];rfl
theorem slot_out {f:Nat->Value} {s:Nat} (hs:ds.contains s=false):((⟨putAll t0 ds f,[]⟩:Act).tmps[s]?).getD undef=(t0[s]?).getD undef:=by
 dsimp only;rw[putAll_far ds t0 f s (by intro h;rw[<-List.contains_iff_mem] at h;rw[hs] at h;cases h)]
inductive Sp where
 | is (v:Value)
 | su (p:Value->World->Prop)
def Sp.holds (Z:Nat->Prop):Sp->Value->World->Prop
 | .is u,v,_=>v=u
 | .su p,v,w=>∃ w1,Chg Z w1 w/\p v w1
def spS (Z:Nat->Prop) (SL:List Sp) (i:Nat) (v:Value) (w:World):Prop:=Sp.holds Z (SL.getD i (.is undef)) v w
theorem spS_mono (Z:Nat->Prop) (SL:List Sp) (i:Nat) (v:Value) (w w':World) (h:spS Z SL i v w) (hc:Chg Z w w'):spS Z SL i v w':=by
 unfold spS at h |-;cases hs:SL.getD i (.is undef) with
 | is u=>rw[hs] at h;exact h
 | su p=>rw[hs] at h;obtain ⟨w1,h1,h2⟩:=h;exact ⟨w1,Ct h1 hc,h2⟩
def St (P:Program) (ops:Array Oper) (Q:Exit->Act->World->Prop) (L:List (Option Nat)) (ds:List Nat) (SL:List Sp) (Z:Nat->Prop) (t0:Array Value) (w0:World) (i:Nat) (o:Oper):Prop:=
 ∀ (f:Nat->Value) (a:Act) (w:World),(∀ s,ds.contains s=true->(a.tmps[s]?).getD undef=f s)->(∀ s,ds.contains s=false->(a.tmps[s]?).getD undef=(t0[s]?).getD undef)->Chg Z w0 w->(∀ j,(dn ops i).contains j=true->spS Z SL j (atF f (L[j]?.join)) w)->
  wpOp P ops Q i (fun a' w'=>∃ v,a'=a.put o.dst v/\spS Z SL i v w'/\(o.dst=none->v=undef)/\Chg Z w w') a w
theorem St.step (hD:dstB ops L ds t0.size=true) {SL:List Sp} {i:Nat} {o:Oper} (h:St P ops Q L ds SL Z t0 w0 i o):Step P ops Q L ds (spS Z SL) Z t0 w0 i o:=fun f w hC hd=>
 h f ⟨putAll t0 ds f,[]⟩ w (fun _ hs=>slot_in hD hs) (fun _ hs=>slot_out hs) hC hd
theorem Each.mono {T T':Nat->Oper->Prop} (h:∀ i o,T i o->T' i o):∀ (l:List Oper) (n:Nat),Each T n l->Each T' n l
 | [],_,_=>trivial
 | _::l,n,hh=>⟨h _ _ hh.1,Each.mono h l (n+1) hh.2⟩
theorem region_sp {id:Nat} (hm:P.follows .mixedOrders=true) (L:List (Option Nat)) (ds:List Nat) (SL:List Sp) (Z:Nat->Prop) (hl:laterB ops=true) (hD:dstB ops L ds t0.size=true)
  (steps:Each (St P ops Q L ds SL Z t0 w0) 0 ops.toList) (done:∀ f w,Chg Z w0 w->(∀ i,i < ops.size->spS Z SL i (atF f (L[i]?.join)) w)->Q .normal ⟨putAll t0 ds f,[]⟩ w):(Code.region id ops true).wp P Q ⟨t0,[]⟩ w0:=
 region_made hm L ds (spS Z SL) Z hl hD (spS_mono Z SL) (Each.mono (fun _ _ h=>h.step hD) _ _ steps) done
theorem region_spk {id:Nat} (hm:P.follows .mixedOrders=true) (L:List (Option Nat)) (ds:List Nat) (SL:List Sp) (n:Nat) (hn:ops.size=n+1) (hl:laterB ops=true) (hD:dstB ops L ds t0.size=true) (hk:sinkB ops n=true)
  (steps:Each (St P ops Q L ds SL (fun _=>False) t0 w0) 0 (ops.toList.take n)) (last:∀ (f:Nat->Value) (a:Act) (w:World),a=⟨putAll t0 ds f,[]⟩->(∀ s,ds.contains s=true->(a.tmps[s]?).getD undef=f s)->(∀ s,ds.contains s=false->(a.tmps[s]?).getD undef=(t0[s]?).getD undef)->Chg (fun _=>False) w0 w->(∀ i,i < n->spS (fun _=>False) SL i (atF f (L[i]?.join)) w)->wpOp P ops Q n (fun a' w'=>Q .normal a' w') a w):(Code.region id ops true).wp P Q ⟨t0,[]⟩ w0:=
 region_sink hm L ds (spS (fun _=>False) SL) (fun _=>False) n hn hl hD hk (spS_mono _ SL) (Each.mono (fun _ _ h=>h.step hD) _ _ steps) (fun f w hC hS=>last f _ w rfl (fun _ hs=>slot_in hD hs) (fun _ hs=>slot_out hs) hC hS)
variable {a:Act} {w w':World} {i:Nat} {o:Oper} {SL:List Sp} {K:Act->World->Prop}
theorem st_is {v:Value} (ho:ops[i]?=some o) (hg:o.guard=none) (hrun:(execOp a.eval o).run P w=.ok (.value v) w) (hS:SL.getD i (.is undef)=.is v) (hd:o.dst ≠ none):wpOp P ops Q i (fun a' w'=>∃ v,a'=a.put o.dst v/\spS Z SL i v w'/\(o.dst=none->v=undef)/\Chg Z w w') a w:=
 wpOp_value ho hg hrun ⟨v,rfl,by unfold spS;rw[hS];rfl,fun h=>absurd h hd,Chg.refl _ _⟩
theorem st_su {v:Value} {p:Value->World->Prop} (ho:ops[i]?=some o) (hg:o.guard=none) (hrun:(execOp a.eval o).run P w=.ok (.value v) w') (hS:SL.getD i (.is undef)=.su p) (hp:p v w') (hc:Chg Z w w') (hd:o.dst ≠ none):wpOp P ops Q i (fun a' w'=>∃ v,a'=a.put o.dst v/\spS Z SL i v w'/\(o.dst=none->v=undef)/\Chg Z w w') a w:=
 wpOp_value ho hg hrun ⟨v,rfl,by unfold spS;rw[hS];exact ⟨w',Chg.refl _ _,hp⟩,fun h=>absurd h hd,hc⟩
theorem st_call {f:FuncId} {args:Array Value} {p:Value->World->Prop} (ho:ops[i]?=some o) (hg:o.guard=none) (hrun:(execOp a.eval o).run P w=.ok (.enter f args) w) (hS:SL.getD i (.is undef)=.su p) (hd:o.dst ≠ none) (hk:Calls P f args w fun e w'=>∃ v,e=.returned v/\p v w'/\Chg Z w w'):wpOp P ops Q i (fun a' w'=>∃ v,a'=a.put o.dst v/\spS Z SL i v w'/\(o.dst=none->v=undef)/\Chg Z w w') a w:=by
 refine wpOp_enter ho hg hrun (hk.mono ?_);rintro e w' ⟨v,he,hp,hc⟩;exact ⟨v,he,v,rfl,by unfold spS;rw[hS];exact ⟨w',Chg.refl _ _,hp⟩,fun h=>absurd h hd,hc⟩
theorem st_calli {f:FuncId} {args:Array Value} {v:Value} (ho:ops[i]?=some o) (hg:o.guard=none) (hrun:(execOp a.eval o).run P w=.ok (.enter f args) w) (hS:SL.getD i (.is undef)=.is v) (hd:o.dst ≠ none) (hk:Calls P f args w fun e w'=>e=.returned v/\Chg Z w w'):wpOp P ops Q i (fun a' w'=>∃ v,a'=a.put o.dst v/\spS Z SL i v w'/\(o.dst=none->v=undef)/\Chg Z w w') a w:=by
 refine wpOp_enter ho hg hrun (hk.mono ?_);rintro e w' ⟨he,hc⟩;exact ⟨v,he,v,rfl,by unfold spS;rw[hS];rfl,fun h=>absurd h hd,hc⟩
end
end
end Go.Proofs.YthohgagkjnbkbaaGreat
