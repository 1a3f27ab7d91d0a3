/- FragTrue, part 5: TrLaw TrRef TrRef2 FrVal FrPlace FrPlain. Each theorem says what a function does, or a plain fact, under its own premises alone. -/
import Derived.Test.YthohgagkjnbkbaaGreatP4
set_option maxRecDepth 100000
set_option maxHeartbeats 16000000
namespace Go.Proofs.YthohgagkjnbkbaaGreat
namespace Tr
theorem arity_range (op:Int):arity op=-1\/arity op=0\/arity op=1\/arity op=2:=by
 unfold arity
 (repeat' split)<;>simp
def beg (f:Nat->Int):Int->Nat->Int
 | _,0=>-1
 | k,i+1=>if arity (f i) < 0 then -1 else if k+(arity (f i) - 1)=0 then i else beg f (k+(arity (f i) - 1)) i
def run (f:Nat->Int):Nat->Option (List T)
 | 0=>some []
 | n+1=>match run f n with
  | none=>none
  | some row=>push row (f n) n
def WF (f:Nat->Int):T->Nat->Nat->Prop
 | .leaf a,lo,hi=>a=lo/\hi=lo+1/\arity (f a)=0
 | .one a x,lo,hi=>hi=a+1/\arity (f a)=1/\WF f x lo a
 | .two a x y,lo,hi=>hi=a+1/\arity (f a)=2/\∃ m,WF f x lo m/\WF f y m a
def Row (f:Nat->Int):List T->Nat->Prop
 | [],n=>n=0
 | t::r,n=>∃ m,WF f t m n/\Row f r m
section
variable {f g:Nat->Int}
theorem WF.lt:∀ {t:T} {lo hi:Nat},WF f t lo hi->lo < hi
 | .leaf a,lo,hi,h=>by simp only[WF] at h;omega
 | .one a x,lo,hi,h=>by simp only[WF] at h;have:=WF.lt h.2.2;omega
 | .two a x y,lo,hi,h=>by
  simp only[WF] at h;obtain ⟨h1,h2,m,h3,h4⟩:=h;have:=WF.lt h3;have:=WF.lt h4;omega
theorem WF.end_:∀ {t:T} {lo hi:Nat},WF f t lo hi->t.endOf+1=hi
 | .leaf a,lo,hi,h=>by simp only[WF] at h;simp only[T.endOf];omega
 | .one a x,lo,hi,h=>by simp only[WF] at h;simp only[T.endOf];omega
 | .two a x y,lo,hi,h=>by simp only[WF] at h;simp only[T.endOf];omega
theorem beg_succ (k:Int) (i:Nat):beg f k (i+1)=if arity (f i) < 0 then -1 else if k+(arity (f i) - 1)=0 then (i:Int) else beg f (k+(arity (f i) - 1)) i:=rfl
theorem beg_lt:∀ (n:Nat) (k:Int),beg f k n < n
 | 0,_=>by simp[beg]
 | n+1,k=>by
  rw[beg_succ];split
  ·omega
  ·split
   ·omega
   ·have:=beg_lt n (k+(arity (f n) - 1));omega
theorem beg_ge:∀ (n:Nat) (k:Int),-1<=beg f k n
 | 0,_=>by simp[beg]
 | n+1,k=>by
  rw[beg_succ];split
  ·omega
  ·split
   ·omega
   ·exact beg_ge n _
theorem WF.beg:∀ {t:T} {lo hi:Nat},WF f t lo hi->∀ k:Int,1<=k->Tr.beg f k hi=if k=1 then (lo:Int) else Tr.beg f (k - 1) lo
 | .leaf a,lo,hi,h=>fun k hk=>by
  simp only[WF] at h;obtain ⟨rfl,rfl,h3⟩:=h;rw[beg_succ,h3,if_neg (by omega)];by_cases h1:k=1
  ·subst h1;simp
  ·rw[if_neg (by omega),if_neg h1];congr 1
 | .one a x,lo,hi,h=>fun k hk=>by
  simp only[WF] at h;obtain ⟨rfl,h2,h3⟩:=h;rw[beg_succ,h2,if_neg (by omega),if_neg (by omega),<-WF.beg h3 k hk];congr 1;omega
 | .two a x y,lo,hi,h=>fun k hk=>by
  simp only[WF] at h;obtain ⟨rfl,h2,m,h3,h4⟩:=h;rw[beg_succ,h2,if_neg (by omega),if_neg (by omega),WF.beg h4 _ (by omega),if_neg (by omega),<-WF.beg h3 k hk];congr 1;omega
theorem run_succ (n:Nat):run f (n+1)=match run f n with
  | none=>none
  | some row=>push row (f n) n:=rfl
theorem push_row {row r:List T} {n:Nat} (h:Row f row n) (hp:push row (f n) n=some r):Row f r (n+1):=by
 unfold push at hp;split at hp
 ·rename_i h0;injection hp with hp;subst hp;exact ⟨n,⟨rfl,rfl,h0⟩,h⟩
 ·split at hp
  ·rename_i h0;split at hp
   ·injection hp with hp;subst hp;obtain ⟨m,h1,h2⟩:=h;exact ⟨m,⟨rfl,h0,h1⟩,h2⟩
   ·cases hp
  ·split at hp
   ·rename_i h0;split at hp
    ·injection hp with hp;subst hp;obtain ⟨m,h1,m2,h2,h3⟩:=h;exact ⟨m2,⟨rfl,h0,m,h2,h1⟩,h3⟩
    ·cases hp
   ·cases hp
theorem run_row:∀ {n:Nat} {row:List T},run f n=some row->Row f row n
 | 0,row,h=>by injection h with h;subst h;rfl
 | n+1,row,h=>by
  rw[run_succ] at h;split at h
  ·cases h
  ·rename_i row' hr;exact push_row (run_row hr) h
theorem push_len {row:List T} {op:Int} {n:Nat} {k:Int} (hk:1<=k) (ha:0<=arity op) (hl:(row.length:Int)=k+(arity op - 1)):∃ r,push row op n=some r/\(r.length:Int)=k:=by
 unfold push;rcases arity_range op with h | h | h | h
 ·omega
 ·rw[if_pos h];exact ⟨_,rfl,by rw[List.length_cons];omega⟩
 ·rw[if_neg (by omega),if_pos h]
  match row,hl with
  | [],hl=>simp at hl;omega
  | x::r,hl=>exact ⟨_,rfl,by rw[List.length_cons] at hl |-;omega⟩
 ·rw[if_neg (by omega),if_neg (by omega),if_pos h]
  match row,hl with
  | [],hl=>simp at hl;omega
  | [x],hl=>simp at hl;omega
  | x::y::r,hl=>exact ⟨_,rfl,by rw[List.length_cons,List.length_cons] at hl;rw[List.length_cons];omega⟩
theorem beg_run:∀ (n:Nat) (k:Int),1<=k->beg f k n=0->∃ row,run f n=some row/\(row.length:Int)=k
 | 0,k,_,h=>by simp[beg] at h
 | n+1,k,hk,h=>by
  rw[beg_succ] at h;split at h
  ·omega
  ·rename_i h0;split at h
   ·rename_i h1;have hn:n=0:=by omega
    subst hn;obtain ⟨r,h2,h3⟩:=push_len (row:=[]) (op:=f 0) (n:=0) hk (by omega) (by simp;omega);exact ⟨r,by rw[run_succ];exact h2,h3⟩
   ·obtain ⟨row,h2,h3⟩:=beg_run n _ (by omega) h;obtain ⟨r,h4,h5⟩:=push_len (op:=f n) (n:=n) hk (by omega) h3;exact ⟨r,by rw[run_succ,h2];exact h4,h5⟩
theorem form_iff (n:Nat):beg f 1 n=0<->∃ t,run f n=some [t]:=by
 refine ⟨fun h=>?_,fun ⟨t,h⟩=>?_⟩
 ·obtain ⟨row,h1,h2⟩:=beg_run n 1 (by omega) h
  match row,h2 with
  | [],h2=>simp at h2
  | [t],_=>exact ⟨t,h1⟩
  | _::_::_,h2=>simp only[List.length_cons] at h2;omega
 ·obtain ⟨m,h1,h2⟩:=run_row h;have h2:m=0:=h2;subst h2;rw[h1.beg 1 (by omega)];simp
theorem form_wf {n:Nat} {t:T} (h:run f n=some [t]):WF f t 0 n:=by
 obtain ⟨m,h1,h2⟩:=run_row h;have h2:m=0:=h2;subst h2;exact h1
def T.find (at_:Int):T->Option T
 | .leaf a=>if (a:Int)=at_ then some (.leaf a) else none
 | .one a x=>if (a:Int)=at_ then some (.one a x) else x.find at_
 | .two a x y=>if (a:Int)=at_ then some (.two a x y) else if at_ > a then none else if at_<=x.endOf then x.find at_ else y.find at_
def T.kids:T->List Nat
 | .leaf _=>[]
 | .one _ x=>[x.endOf]
 | .two _ x y=>[x.endOf,y.endOf]
theorem WF.find:∀ {t:T} {lo hi:Nat},WF f t lo hi->∀ a:Nat,lo<=a->a < hi->∃ s b,t.find a=some s/\lo<=b/\WF f s b (a+1)
 | .leaf c,lo,hi,h=>fun a h1 h2=>by
  simp only[WF] at h;obtain ⟨rfl,rfl,h3⟩:=h;obtain rfl:a=c:=by omega
  exact ⟨.leaf a,a,by simp[T.find],Nat.le_refl _,⟨rfl,rfl,h3⟩⟩
 | .one c x,lo,hi,h=>fun a h1 h2=>by
  have hw:=h;simp only[WF] at h;obtain ⟨rfl,h3,h4⟩:=h;by_cases hc:c=a
  ·subst hc;exact ⟨.one c x,lo,by simp[T.find],Nat.le_refl _,hw⟩
  ·obtain ⟨s,b,h5,h6,h7⟩:=WF.find h4 a h1 (by omega);exact ⟨s,b,by simp only[T.find];rw[if_neg (by omega)];exact h5,h6,h7⟩
 | .two c x y,lo,hi,h=>fun a h1 h2=>by
  have hw:=h;simp only[WF] at h;obtain ⟨rfl,h3,m,h4,h5⟩:=h;by_cases hc:c=a
  ·subst hc;exact ⟨.two c x y,lo,by simp[T.find],Nat.le_refl _,hw⟩
  ·have he:=h4.end_;have hl:=h4.lt;by_cases hx:a < m
   ·obtain ⟨s,b,h6,h7,h8⟩:=WF.find h4 a h1 hx;exact ⟨s,b,by simp only[T.find];rw[if_neg (by omega),if_neg (by omega),if_pos (by omega)];exact h6,h7,h8⟩
   ·obtain ⟨s,b,h6,h7,h8⟩:=WF.find h5 a (by omega) (by omega);exact ⟨s,b,by simp only[T.find];rw[if_neg (by omega),if_neg (by omega),if_neg (by omega)];exact h6,by omega,h8⟩
theorem WF.beg1 {t:T} {lo hi:Nat} (h:WF f t lo hi):Tr.beg f 1 hi=lo:=by rw[h.beg 1 (by omega)];simp
end
def kidsB (f:Nat->Int) (e:Nat):List Int:=if arity (f e)=0 then [] else if arity (f e)=1 then [(e:Int) - 1] else [beg f 1 e - 1,(e:Int) - 1]
theorem WF.kids {f:Nat->Int}:∀ {t:T} {lo a:Nat},WF f t lo (a+1)->kidsB f a=t.kids.map (fun (n:Nat)=>(n:Int))
 | .leaf c,lo,a,h=>by
  simp only[WF] at h;obtain ⟨rfl,h2,h3⟩:=h;obtain rfl:a=c:=by omega
  unfold kidsB;rw[if_pos h3];rfl
 | .one c x,lo,a,h=>by
  simp only[WF] at h;obtain ⟨h2,h3,h4⟩:=h;obtain rfl:a=c:=by omega
  have:=h4.end_;unfold kidsB;rw[if_neg (by omega),if_pos h3];simp only[T.kids,List.map_cons,List.map_nil,List.cons.injEq,and_true];omega
 | .two c x y,lo,a,h=>by
  simp only[WF] at h;obtain ⟨h2,h3,m,h4,h5⟩:=h;obtain rfl:a=c:=by omega
  have:=h4.end_;have:=h5.end_;unfold kidsB;rw[if_neg (by omega),if_neg (by omega),h5.beg1];simp only[T.kids,List.map_cons,List.map_nil,List.cons.injEq,and_true];omega
def check (f:Nat->Int) (n:Nat):Int:=if n=0 then 12 else if 64 < n then 3 else if beg f 1 n=0 then 0 else 17
theorem check_zero {f:Nat->Int} {n:Nat}:check f n=0<->0 < n/\n<=64/\beg f 1 n=0:=by
 unfold check
 (repeat' split)<;>(refine ⟨fun h=>?_,fun h=>?_⟩<;>first | omega | (refine ⟨?_,?_,?_⟩<;>omega))
end Tr
section
open Go.RowKit
def sg (f:List Nm.Item) (i:Nat):Int:=match f[i]? with
 | some x=>x.op
 | none=>0
theorem sg_at {f:List Nm.Item} {i:Nat} {x:Nm.Item} (h:f[i]?=some x):sg f i=x.op:=by unfold sg;rw[h]
theorem op_at {w:World} {B:Nat} {A:Option Addr} {f:List Nm.Item} (h:Rd w B A (cellsI f)) {i:Nat} (hi:i < f.length):∃ b o,A=some ⟨b,o,none⟩/\b < B/\w.cell? ⟨b,o+i * 9,none⟩=some (.int .i64 (sg f i)):=by
 obtain ⟨b,o,h1,h2,h3,_⟩:=item_at h (gG hi);exact ⟨b,o,h1,h2,by rw[sg_at (gG hi)];exact h3⟩
theorem refBegin_any (w:World) (A:Option Addr) (c:Nat) (f:List Nm.Item) (e:Nat) (he:e < f.length) (hl:f.length<=1000) (hr:Rd w w.heap.size A (cellsI f)):
  Calls Tryz.prog 62 #[.slice A f.length c,.int .i64 e] w fun r w'=>r=.returned (.int .i64 (Tr.beg (sg f) 1 (e+1)))/\w=w':=by
 have HR:=zI hr;clear hr;go_enter Tryz.func62,Tryz.ntmps62;go_wp2
 go_loopw [6,5] (fun i k wr=>∃ (j:Nat) (q:Int),j<=e+1/\i=.int .i64 ((j:Int) - 1)/\k=.int .i64 q/\1<=q/\q+j<=e+2+e+2/\Hid (Tr.beg (sg f) q j=Tr.beg (sg f) 1 (e+1))/\Hid (w=wr)) (fun i _ _=>(intOf i+1).toNat)
 case atStart=>
  refine ⟨e+1,1,by omega,by go_num,rfl,by omega,by omega,rfl,rfl⟩
 case round=>
  obtain ⟨j,q,hj,hi,rfl,hq1,hq2,hB,hW⟩:=hrel;cases hW.out;rcases j with _ | j
  ·subst hi;go_wp2
   go_ret;exact ⟨by rw[<-hB.out];rfl,rfl⟩
  ·subst hi;have hjj:(((j+1:Nat):Int) - 1)=(j:Int):=by omega
   rw[hjj];clear hjj;obtain ⟨b,o,rfl,hb,hc⟩:=op_at HR.out (i:=j) (by omega);have hbs:=zI (Tr.beg_succ (f:=sg f) q j);rcases Tr.arity_range (sg f j) with h0 | h0 | h0 | h0
   ·replace h0:=zI h0;have hd:Hid (Tr.beg (sg f) 1 (e+1)=-1):=by show _=_;rw[<-hB.out,hbs.out,h0.out];rfl
    go_wp2_with (go_at_call 95;refine (refArity_any _ _).mono ?_;rintro e w' ⟨rfl,rfl⟩;rw[h0.out])
    go_ret;exact ⟨by rw[hd.out];rfl,rfl⟩
   ·by_cases hq:q=1
    ·subst hq;replace h0:=zI h0;have hd:Hid (Tr.beg (sg f) 1 (e+1)=j):=by show _=_;rw[<-hB.out,hbs.out,h0.out];rfl
     go_wp2_with (go_at_call 95;refine (refArity_any _ _).mono ?_;rintro e w' ⟨rfl,rfl⟩;rw[h0.out])
     go_ret;exact ⟨by rw[hd.out];rfl,rfl⟩
    ·replace h0:=zI h0;have hqz:(q+(-1) ==0)=false:=by rw[bF];omega
     have hd:Hid (Tr.beg (sg f) (q+(-1)) j=Tr.beg (sg f) 1 (e+1)):=by show _=_;rw[<-hB.out,hbs.out,h0.out,if_neg (by omega),if_neg (by omega)];rfl
     go_wp2_with (go_at_call 95;refine (refArity_any _ _).mono ?_;rintro e w' ⟨rfl,rfl⟩;rw[h0.out])
     go_roundw
     case rel=>exact ⟨j,q+(-1),by omega,by go_num,by go_num,by omega,by omega,hd,by first | exact zI rfl | exact zI trivial⟩
     case measure=>(simp[intOf]<;>omega)
   ·replace h0:=zI h0;have hqz:(q ==0)=false:=by rw[bF];omega
    have hd:Hid (Tr.beg (sg f) q j=Tr.beg (sg f) 1 (e+1)):=by show _=_;rw[<-hB.out,hbs.out,h0.out,if_neg (by omega),if_neg (by omega)];congr 1;omega
    go_wp2_with (go_at_call 95;refine (refArity_any _ _).mono ?_;rintro e w' ⟨rfl,rfl⟩;rw[h0.out])
    go_roundw
    case rel=>exact ⟨j,q,by omega,by go_num,by go_num,by omega,by omega,hd,by first | exact zI rfl | exact zI trivial⟩
    case measure=>(simp[intOf]<;>omega)
   ·replace h0:=zI h0;have hqz:(q+1 ==0)=false:=by rw[bF];omega
    have hd:Hid (Tr.beg (sg f) (q+1) j=Tr.beg (sg f) 1 (e+1)):=by show _=_;rw[<-hB.out,hbs.out,h0.out,if_neg (by omega),if_neg (by omega)];rfl
    go_wp2_with (go_at_call 95;refine (refArity_any _ _).mono ?_;rintro e w' ⟨rfl,rfl⟩;rw[h0.out])
    go_roundw
    case rel=>exact ⟨j,q+1,by omega,by go_num,by go_num,by omega,by omega,hd,by first | exact zI rfl | exact zI trivial⟩
    case measure=>(simp[intOf]<;>omega)
theorem kidsB_int (f:List Nm.Item) (e:Nat):Tr.kidsB (sg f) e=if Tr.arity (sg f e)=0 then [] else if Tr.arity (sg f e)=1 then [(e:Int) - 1] else [Tr.beg (sg f) 1 e - 1,(e:Int) - 1]:=rfl
theorem refCheck_any' (w:World) (A:Option Addr) (c:Nat) (f:List Nm.Item) (hl:f.length<=maxLen) (hr:Rd w w.heap.size A (cellsI f)):
  Calls Tryz.prog 31 #[.slice A f.length c] w fun r w'=>r=.returned (.int .i64 (Tr.check (sg f) f.length))/\w=w':=by
 have HR:=zI hr;clear hr;unfold Tr.check;unfold maxLen at hl;by_cases h0:f.length=0
 ·rw[if_pos h0,h0];go_enter Tryz.func31,Tryz.ntmps31;go_wp2
  go_ret;exact ⟨rfl,rfl⟩
 ·rw[if_neg h0];have hz:((f.length:Int) ==0)=false:=by rw[bF];omega
  by_cases h1:64 < f.length
  ·rw[if_pos h1];have hd:decide ((64:Int) < (f.length:Int))=true:=by rw[dT];omega
   go_enter Tryz.func31,Tryz.ntmps31;go_wp2
   go_ret;exact ⟨rfl,rfl⟩
  ·rw[if_neg h1];have hd:decide ((64:Int) < (f.length:Int))=false:=by rw[dF];omega
   obtain ⟨e,he⟩:∃ e,f.length=e+1:=⟨f.length - 1,by omega⟩;have hb:=refBegin_any w A c f e (by omega) (by omega) HR.out;rw[he] at hb;rw[he] at h1 hz hd |-;have HB:=zI hb;clear hb;obtain ⟨v,hv⟩:∃ v,v=Tr.beg (sg f) 1 (e+1):=⟨_,rfl⟩;rw[<-hv] at HB |-;clear hv he h0;by_cases hv0:v=0
   ·subst hv0;go_enter Tryz.func31,Tryz.ntmps31;go_wp2_with (go_at_call 62;refine (HB.out).mono ?_;rintro e w' ⟨rfl,rfl⟩)
    go_ret;exact ⟨rfl,rfl⟩
   ·rw[if_neg hv0];have hvz:(v ==0)=false:=by rw[bF];omega
    have hvz2:(v !=0)=true:=by simpa using hv0
    go_enter Tryz.func31,Tryz.ntmps31;go_wp2_with (go_at_call 62;refine (HB.out).mono ?_;rintro e w' ⟨rfl,rfl⟩)
    go_ret;exact ⟨rfl,rfl⟩
def KidsR (w0:World) (l:List Int) (e:Ending) (w':World):Prop:=
 ∃ A c,e=.returned (.slice A l.length c)/\l.length<=maxLen/\Rd w' w'.heap.size A (intsV l)/\Chg (fun _=>False) w0 w'/\∀ ad,A=some ad->w0.heap.size<=ad.block
theorem kids_nil (w:World):KidsR w [] (.returned (.slice none 0 0)) w:=⟨none,0,rfl,by simp,fun h=>by simp[intsV] at h,Chg.refl _ _,fun ad h=>by cases h⟩
theorem kids_one {w0:World} (w:World) (a:Int) (h:Chg (fun _=>False) w0 w):KidsR w0 [a] (.returned (.slice (some ⟨w.heap.size,0,none⟩) 1 1)) (w.alloc (.cells #[.int .i64 a] 3)):=
 ⟨_,_,rfl,by unfold maxLen;simp,fun _=>⟨_,rfl,by simp,all_new (Blk.new w 3 #[.int .i64 a])⟩,h.alloc _,fun ad h2=>by injection h2 with h2;subst h2;exact h.size⟩
theorem kids_two {w0:World} (w:World) (a b:Int) (h:Chg (fun _=>False) w0 w):KidsR w0 [a,b] (.returned (.slice (some ⟨w.heap.size,0,none⟩) 2 2)) (w.alloc (.cells #[.int .i64 a,.int .i64 b] 3)):=
 ⟨_,_,rfl,by unfold maxLen;simp,fun _=>⟨_,rfl,by simp,all_new (Blk.new w 3 #[.int .i64 a,.int .i64 b])⟩,h.alloc _,fun ad h2=>by injection h2 with h2;subst h2;exact h.size⟩
theorem refKids_any (w:World) (A:Option Addr) (c:Nat) (f:List Nm.Item) (e:Nat) (he:e < f.length) (h1:Tr.arity (sg f e) ≠ 0->1<=e) (hl:f.length<=1000) (hr:Rd w w.heap.size A (cellsI f)):
  Calls Tryz.prog 66 #[.slice A f.length c,.int .i64 e] w fun r w'=>KidsR w (Tr.kidsB (sg f) e) r w':=by
 have HR:=zI hr;have hk:=zI (kidsB_int f e);obtain ⟨b,o,rfl,hb,hc⟩:=op_at hr he;clear hr;by_cases h0:Tr.arity (sg f e)=0
 ·have hK:Tr.kidsB (sg f) e=[]:=by rw[hk.out,if_pos h0]
  rw[hK];replace h0:=zI h0;clear hK h1;go_enter Tryz.func66,Tryz.ntmps66;go_wp2_with (go_at_call 95;refine (refArity_any _ _).mono ?_;rintro e w' ⟨rfl,rfl⟩;rw[h0.out])
  go_ret;exact kids_nil w
 obtain ⟨k,rfl⟩:∃ k,e=k+1:=⟨e - 1,by have:=h1 h0;omega⟩;have hkk:((k+1:Nat):Int) - 1=k:=by omega
 by_cases h2:Tr.arity (sg f (k+1))=1
 ·have hK:Tr.kidsB (sg f) (k+1)=[(k:Int)]:=by rw[hk.out,if_neg h0,if_pos h2,hkk]
  rw[hK];replace h2:=zI h2;clear hK h1 h0;go_enter Tryz.func66,Tryz.ntmps66;go_wp2_with (go_at_call 95;refine (refArity_any _ _).mono ?_;rintro e w' ⟨rfl,rfl⟩;rw[h2.out])
  go_ret;exact kids_one w _ (Chg.refl _ _)
 ·have hK:Tr.kidsB (sg f) (k+1)=[Tr.beg (sg f) 1 (k+1) - 1,(k:Int)]:=by rw[hk.out,if_neg h0,if_neg h2,hkk]
  rw[hK];clear hK hk;have ha:(Tr.arity (sg f (k+1)) ==0)=false:=by rw[bF];exact h0
  have hb1:(Tr.arity (sg f (k+1)) ==1)=false:=by rw[bF];exact h2
  have hbg:=refBegin_any w (some ⟨b,o,none⟩) c f k (by omega) hl HR.out;have hb0:=Tr.beg_lt (f:=sg f) (k+1) 1;have hb2:=Tr.beg_ge (f:=sg f) (k+1) 1;obtain ⟨v,hv⟩:∃ v,v=Tr.beg (sg f) 1 (k+1):=⟨_,rfl⟩;rw[<-hv] at hbg hb0 hb2 |-;clear hv hkk h1 h0 h2;replace hbg:=zI hbg;go_enter Tryz.func66,Tryz.ntmps66;go_wp2_with (first | (go_at_call 95;refine (refArity_any _ _).mono ?_;rintro e w' ⟨rfl,rfl⟩) | (go_at_call 62;refine (hbg.out).mono ?_;rintro e w' ⟨rfl,rfl⟩))
  go_ret;exact kids_two w _ _ (Chg.refl _ _)
def VOK (w:World) (s:SC) (vs:List Int):Prop:=vs.length=s.nV/\Rd w w.heap.size s.aV (intsV vs)
theorem VOK.later {w w':World} {s:SC} {vs:List Int} (h:VOK w s vs) (hc:Chg (fun _=>False) w w'):VOK w' s vs:=⟨h.1,h.2.later hc (fun _ h=>h.elim)⟩
def thB (n:Nat) (a:Int):Bool:=decide (-1<=a) && decide (a < n)
def valV (vs:List Int) (a num:Int):Int:=if a=-1 then num else vs.getD a.toNat 0
def vA (a n:Int):Array Value:=#[.int .i64 a,.int .i64 n]
theorem cells2 (w:World) (t1 t2:TypeId) (a b:Array Value):Blk ((w.alloc (.cells a t1)).alloc (.cells b t2)) w.heap.size t1 a/\Blk ((w.alloc (.cells a t1)).alloc (.cells b t2)) (w.heap.size+1) t2 b:=
 ⟨(Blk.new w t1 a).alloc _,blk_new2 w _ t2 b⟩
theorem chg2 (w:World) (o1 o2:Obj):Chg (fun _=>False) w ((w.alloc o1).alloc o2):=((Chg.refl _ w).alloc o1).alloc o2
theorem there_any (w:World) (s:SC) (a n:Int):Calls Tryz.prog 129 #[.agg (sA s),.agg (vA a n)] w fun e w'=>e=.returned (.bool (thB s.nV a))/\Chg (fun _=>False) w w':=by
 obtain ⟨h1,h2⟩:=cells2 w 134 81 (sA s) (vA a n);have hC:=zI (chg2 w (.cells (sA s) 134) (.cells (vA a n) 81));obtain ⟨f0,-,-,-,-⟩:=scells h1;have g0:((w.alloc (.cells (sA s) 134)).alloc (.cells (vA a n) 81)).cell? ⟨w.heap.size+1,0,none⟩=some (.int .i64 a):=by rw[h2.cell];rfl
 clear h1 h2;obtain ⟨x,hx⟩:∃ x,decide (-1<=a)=x:=⟨_,rfl⟩;obtain ⟨y,hy⟩:∃ y,decide (a < s.nV)=y:=⟨_,rfl⟩;have hv:Hid (thB s.nV a=(x && y)):=by show _=_;unfold thB;rw[hx,hy]
 unfold sA vA at f0 g0 hC |-;cases x<;>cases y;all_goals (go_enter Tryz.func129,Tryz.ntmps129)
 all_goals go_wp2
 all_goals go_ret
 all_goals exact ⟨by rw[hv.out];rfl,hC.out⟩
theorem val_any (w:World) (s:SC) (vs:List Int) (a n:Int) (hV:VOK w s vs) (ht:thB s.nV a=true):Calls Tryz.prog 131 #[.agg (sA s),.agg (vA a n)] w fun e w'=>e=.returned (.int .i64 (valV vs a n))/\Chg (fun _=>False) w w':=by
 obtain ⟨h1,h2⟩:=cells2 w 134 81 (sA s) (vA a n);have hC:=zI (chg2 w (.cells (sA s) 134) (.cells (vA a n) 81));have hV2:=hV.later hC.out;obtain ⟨f0,-,-,-,-⟩:=scells h1;have g0:((w.alloc (.cells (sA s) 134)).alloc (.cells (vA a n) 81)).cell? ⟨w.heap.size+1,0,none⟩=some (.int .i64 a):=by rw[h2.cell];rfl
 have g1:((w.alloc (.cells (sA s) 134)).alloc (.cells (vA a n) 81)).cell? ⟨w.heap.size+1,1,none⟩=some (.int .i64 n):=by rw[h2.cell];rfl
 clear h1 h2;simp only[thB,Bool.and_eq_true,decide_eq_true_eq] at ht;by_cases hm:a=-1
 ·have e1:(a ==-1)=true:=by rw[beq_iff_eq];exact hm
  have hv:Hid (valV vs a n=n):=by show _=_;unfold valV;rw[if_pos hm]
  clear hV hV2 ht hm;unfold sA vA at f0 g0 g1 hC |-;go_enter Tryz.func131,Tryz.ntmps131;go_wp2
  go_ret;exact ⟨by rw[hv.out];rfl,hC.out⟩
 ·obtain ⟨k,rfl⟩:∃ k:Nat,a=k:=⟨a.toNat,by omega⟩;have hk:k < vs.length:=by rw[hV.1];omega
  have hks:k < s.nV:=by rw[<-hV.1];exact hk
  have e1:((k:Int) ==-1)=false:=by rw[bF];exact hm
  have hv:Hid (valV vs k n=vs[k]):=by show _=_;unfold valV;rw[if_neg hm];simp[List.getD_eq_getElem?_getD,hk]
  obtain ⟨b,o,hA,hb,hc⟩:=vals_at hV2.2 (i:=k) (u:=.int .i64 vs[k]) (by simp[intsV,hk]);obtain ⟨u,hu⟩:∃ u,u=vs[k]:=⟨_,rfl⟩;rw[<-hu] at hv hc;replace f0:=f0.trans (show some (Value.slice s.aV s.nV s.cV)=some (.slice (some ⟨b,o,none⟩) s.nV s.cV) by rw[hA]);clear hu hV hV2 ht hm hb hk hA;unfold sA vA at f0 g0 g1 hC hc |-;go_enter Tryz.func131,Tryz.ntmps131;go_wp2
  go_ret;exact ⟨by rw[hv.out];rfl,hC.out⟩
structure ZC where
 cA:Option Addr
 cl:List (Int × Int)
 cC:Nat
 gA:Option Addr
 gl:List Int
 gC:Nat
def zC (z:ZC):List Value:=[.slice z.cA z.cl.length z.cC,.slice z.gA z.gl.length z.gC]
def zA (z:ZC):Array Value:=#[.slice z.cA z.cl.length z.cC,.slice z.gA z.gl.length z.gC]
structure ZOK (w:World) (z:ZC):Prop where
 cls:Rd w w.heap.size z.cA (z.cl.flatMap soC)
 gap:Rd w w.heap.size z.gA (intsV z.gl)
 few:z.cl.length<=100000/\z.gl.length<=100000
 cin:∀ x ∈ z.cl,inR x.1/\inR x.2
 gin:∀ x ∈ z.gl,inR x
theorem ZOK.later {w w':World} {z:ZC} (h:ZOK w z) (hc:Chg (fun _=>False) w w'):ZOK w' z:=
 ⟨h.cls.later hc (fun _ h=>h.elim),h.gap.later hc (fun _ h=>h.elim),h.few,h.cin,h.gin⟩
def plP (cs:List Int) (a num:Int) (x:Int × Int):Bool:=
 if a=-1 then decide (0<=x.2) && (decide (x.2 < cs.length) && (cs.getD x.2.toNat 0 ==num)) else hasB x.1 a
def plI (cs:List Int) (a num:Int) (l:List (Int × Int)):Int:=match l.findIdx? (plP cs a num) with
 | some i=>i
 | none=>-1
theorem plI_none {cs:List Int} {a num:Int} {l:List (Int × Int)} (h:(l.take l.length).any (plP cs a num)=false):plI cs a num l=-1:=by
 rw[List.take_length] at h;unfold plI;rw[show l.findIdx? (plP cs a num)=none by rw[List.findIdx?_eq_none_iff];simpa using h]
theorem plI_some {cs:List Int} {a num:Int} {l:List (Int × Int)} {j:Nat} {x:Int × Int} (h:(l.take j).any (plP cs a num)=false) (hx:l[j]?=some x) (hp:plP cs a num x=true):plI cs a num l=j:=by
 obtain ⟨hj,rfl⟩:=List.getElem?_eq_some_iff.1 hx;unfold plI;rw[show l.findIdx? (plP cs a num)=some j by
  rw[List.findIdx?_eq_some_iff_getElem];refine ⟨hj,hp,fun i hi=>?_⟩;have:=List.any_eq_false.1 h l[i] (List.mem_take_iff_getElem.2 ⟨i,by omega,rfl⟩);simpa using this]
theorem kal {w:World} {o:Obj} {p:Addr} {u:Value} (h:w.cell? p=some u):(w.alloc o).cell? p=some u:=by
 rw[World.cell?_alloc_lt w o p (World.block_lt_of_cell? w p h)];exact h
theorem sorted_le (l:List Int):(srt l).length<=l.length:=srtUp_le l _ (Nat.le_refl _)
theorem place_any (w:World) (z:ZC) (A:Option Addr) (c:Nat) (l:List Int) (a num:Int) (hz:ZOK w z) (hR:Rd w w.heap.size A (intsV l)) (hn:l.length<=100000):Calls Tryz.prog 97 #[.agg (zA z),.slice A l.length c,.agg (vA a num)] w fun e w'=>e=.returned (.int .i64 (plI (srt l) a num z.cl))/\Chg (fun _=>False) w w':=by
 obtain ⟨h1,h2⟩:=cells2 w 88 81 (zA z) (vA a num);have hC:=zI (chg2 w (.cells (zA z) 88) (.cells (vA a num) 81));have hzf:=hz.few.1;obtain ⟨cs,hcs⟩:∃ cs,cs=srt l:=⟨_,rfl⟩;have hcl:cs.length<=100000:=by rw[hcs];exact Nat.le_trans (sorted_le l) hn
 have HS:=zI (sorted_any _ l A c (hR.later hC.out (fun _ h=>h.elim)) hn);rw[<-hcs] at HS |-;obtain ⟨w1,hw1⟩:∃ w1,w1=(w.alloc (.cells (zA z) 88)).alloc (.cells (vA a num) 81):=⟨_,rfl⟩;rw[<-hw1] at HS hC h1 h2;have HZ:=zI (hz.later hC.out);unfold zA vA at hw1 |-;unfold zA at h1;unfold vA at h2;clear hcs hR hz hn;go_enter Tryz.func97,Tryz.ntmps97;go_wp2_with (go_at_call 26;rw[<-hw1];refine HS.out.mono ?_;rintro e w2 ⟨As,sc,rfl,hml,hRs,hCs⟩;have C2:=zI (Ct hC.out hCs);have RS:=zI hRs;have B1:=zI (h1.chg hCs (fun h=>h));have B2:=zI (h2.chg hCs (fun h=>h));have HZ2:=zI (HZ.out.later hCs);clear hRs hCs h1 h2 hw1 HS HZ hC)
 go_loopw [8,9] (fun x _ wr=>∃ j:Nat,j<=z.cl.length/\x=.int .i64 j/\Hid ((z.cl.take j).any (plP cs a num)=false)/\Hid (Chg (fun _=>False) w2 wr)) (fun x _ _=>z.cl.length - (intOf x).toNat)
 case atStart=>exact ⟨0,Nat.zero_le _,rfl,zI rfl,Chg.refl _ _⟩
 case round=>
  obtain ⟨j,hj,rfl,hU,hC⟩:=hrel;have hb1:=B1.out.chg hC.out (fun h=>h);have hb2:=B2.out.chg hC.out (fun h=>h);have f0:wr.cell? ⟨w.heap.size,0,none⟩=some (.slice z.cA z.cl.length z.cC):=by rw[hb1.cell];rfl
  have g0:wr.cell? ⟨w.heap.size+1,0,none⟩=some (.int .i64 a):=by rw[hb2.cell];rfl
  have g1:wr.cell? ⟨w.heap.size+1,1,none⟩=some (.int .i64 num):=by rw[hb2.cell];rfl
  clear hb1 hb2;by_cases hlt:j < z.cl.length
  ·obtain ⟨x,hx⟩:∃ x,z.cl[j]?=some x:=⟨_,gG hlt⟩;obtain ⟨b1,o1,hA1,hb1,hc⟩:=row_at (f:=soC) (C:=2) (fun _=>rfl) (by omega) (HZ2.out.later hC.out).cls hx;have c0:=hc 0 _ rfl;have c1:=hc 1 _ rfl;have hin:=zI (HZ2.out.cin x (List.mem_of_getElem? hx));have hs:(z.cl.take (j+1)).any (plP cs a num)=plP cs a num x:=by rw[take_get hx,any_snoc,hU.out,Bool.false_or]
   have hyes:=fun h=>plI_some hU.out hx h
   rw[Nat.add_zero] at c0;rw[hA1] at f0;clear hx hc hb1 hU hA1;obtain ⟨xa,xb⟩:=x;dsimp only at c0 c1 hin;have hn:=Blk.new wr 194 #[.int .i64 xa,.int .i64 xb];have n0:(wr.alloc (.cells #[.int .i64 xa,.int .i64 xb] 194)).cell? ⟨wr.heap.size,0,none⟩=some (.int .i64 xa):=by rw[hn.cell];rfl
   have n1:(wr.alloc (.cells #[.int .i64 xa,.int .i64 xb] 194)).cell? ⟨wr.heap.size,1,none⟩=some (.int .i64 xb):=by rw[hn.cell];rfl
   have g0':=kal (o:=.cells #[.int .i64 xa,.int .i64 xb] 194) g0;have g1':=kal (o:=.cells #[.int .i64 xa,.int .i64 xb] 194) g1;have hC2:=zI (hC.out.alloc (.cells #[.int .i64 xa,.int .i64 xb] 194));have hRs:=zI (RS.out.later hC2.out (fun _ h=>h.elim));clear hn g0 g1 hC;by_cases hm:a=-1
   ·subst hm;have hp:plP cs (-1) num (xa,xb)=(decide (0<=xb) && (decide (xb < cs.length) && (cs.getD xb.toNat 0 ==num))):=by unfold plP;rw[if_pos rfl]
    rw[hp] at hs hyes;by_cases d0:0<=xb
    ·by_cases d1:xb < cs.length
     ·obtain ⟨k,rfl⟩:∃ k:Nat,xb=k:=⟨xb.toNat,by omega⟩;have hk:k < cs.length:=by omega
      obtain ⟨b2,o2,hA2,_,hc2⟩:=int_at hRs.out (gG hk);obtain ⟨u,hu⟩:∃ u,u=cs[k]:=⟨_,rfl⟩;have hg:cs.getD k 0=u:=by rw[hu];simp[List.getD_eq_getElem?_getD,hk]
      rw[show ((k:Int)).toNat=k by omega,hg] at hs hyes;rw[<-hu] at hc2;have e0:decide ((0:Int)<=(k:Int))=true:=by simp
      have e1:decide ((k:Int) < (cs.length:Int))=true:=by simpa using hk
      rw[e0,e1,Bool.true_and,Bool.true_and] at hs hyes;rw[hA2];clear hA2 hu hg hp hRs d0 d1 hin;obtain ⟨eb,heb⟩:∃ eb,(u ==num)=eb:=⟨_,rfl⟩;rw[heb] at hs hyes;replace hs:=zI hs;cases eb with
      | true=>
       have hv:=zI (hyes rfl);clear hyes hs;go_wp2_with fail
       go_quiet (fail)
       go_wp2_with fail
       go_ret;exact ⟨by rw[hv.out];rfl,Ct C2.out (hC2.out.drewN nq)⟩
      | false=>
       clear hyes;go_wp2_with fail
       go_quiet (fail)
       have hC3:=zI (hC2.out.drewN nq);go_wp2_with fail
       go_roundw
       case rel=>exact ⟨j+1,by omega,by go_num,hs,hC3⟩
       case measure=>(simp[intOf]<;>omega)
     ·have e0:decide ((0:Int)<=xb)=true:=by simpa using d0
      have e1:decide (xb < (cs.length:Int))=false:=by simpa using d1
      rw[e0,e1,Bool.true_and,Bool.false_and] at hs;replace hs:=zI hs;clear hyes hp hRs d0 d1 hin;go_wp2_with fail
      go_quiet (fail)
      have hC3:=zI (hC2.out.drewN nq);go_wp2_with fail
      go_roundw
      case rel=>exact ⟨j+1,by omega,by go_num,hs,hC3⟩
      case measure=>(simp[intOf]<;>omega)
    ·have e0:decide ((0:Int)<=xb)=false:=by simpa using d0
     rw[e0,Bool.false_and] at hs;replace hs:=zI hs;clear hyes hp hRs hin;go_wp2_with fail
     go_quiet (fail)
     have hC3:=zI (hC2.out.drewN nq);go_wp2_with fail
     go_roundw
     case rel=>exact ⟨j+1,by omega,by go_num,hs,hC3⟩
     case measure=>(simp[intOf]<;>omega)
   ·have e0:(a ==-1)=false:=by rw[bF];exact hm
    have hp:plP cs a num (xa,xb)=hasB xa a:=by unfold plP;rw[if_neg hm]
    rw[hp] at hs hyes;obtain ⟨eb,heb⟩:∃ eb,eb=hasB xa a:=⟨_,rfl⟩;rw[<-heb] at hs hyes;replace heb:=zI heb;replace hs:=zI hs;replace hin:=zI hin.out.1;have e1:(a !=-1)=true:=by rw[bne_iff_ne];exact hm
    clear hp hRs;cases eb with
    | true=>
     have hv:=zI (hyes rfl);clear hyes hs;go_wp2_with (go_at_call 99;refine (refHas_any _ xa a hin.out).mono ?_;rintro e w' ⟨rfl,rfl⟩;rw[<-heb.out])
     go_ret;exact ⟨by rw[hv.out];rfl,Ct C2.out hC2.out⟩
    | false=>
     clear hyes;go_wp2_with (go_at_call 99;refine (refHas_any _ xa a hin.out).mono ?_;rintro e w' ⟨rfl,rfl⟩;rw[<-heb.out])
     go_quiet (fail)
     have hC3:=zI (hC2.out.drewN nq);go_wp2_with fail
     go_roundw
     case rel=>exact ⟨j+1,by omega,by go_num,hs,hC3⟩
     case measure=>(simp[intOf]<;>omega)
  ·obtain rfl:j=z.cl.length:=by omega
   have hno:Hid (plI cs a num z.cl=-1):=plI_none hU.out;clear hU g0 g1;go_wp2
   go_ret;exact ⟨by rw[hno.out];rfl,Ct C2.out hC.out⟩
theorem cells3 (w:World) (t1 t2 t3:TypeId) (a b c:Array Value):Blk (((w.alloc (.cells a t1)).alloc (.cells b t2)).alloc (.cells c t3)) w.heap.size t1 a/\Blk (((w.alloc (.cells a t1)).alloc (.cells b t2)).alloc (.cells c t3)) (w.heap.size+1) t2 b/\Blk (((w.alloc (.cells a t1)).alloc (.cells b t2)).alloc (.cells c t3)) (w.heap.size+2) t3 c:=by
 refine ⟨((Blk.new w t1 a).alloc _).alloc _,(blk_new2 w _ t2 b).alloc _,?_⟩;have h:=Blk.new ((w.alloc (.cells a t1)).alloc (.cells b t2)) t3 c;rwa [show ((w.alloc (.cells a t1)).alloc (.cells b t2)).heap.size=w.heap.size+2 by simp] at h
theorem chg3 (w:World) (o1 o2 o3:Obj):Chg (fun _=>False) w (((w.alloc o1).alloc o2).alloc o3):=(((Chg.refl _ w).alloc o1).alloc o2).alloc o3
def plainB (m:MC) (s:SC) (x:Nm.Inst):Bool:=
 if x.op=1 then true else if x.op=9 then hasB s.op x.n else if x.op=10 then hasB s.dn x.n else if x.op=11 then decide (0 < (whoL m s x.n m.nU).length)
 else if x.op=12 then hasB (atV s.did x.n) x.user else if x.op=13 then com m s else if x.op=14 then stuckB m s else false
theorem icells {w:World} {g:Nat} {x:Nm.Inst} (h:Blk w g 83 (iA x)):w.cell? ⟨g,0,none⟩=some (.int .i64 x.op)/\w.cell? ⟨g,1,none⟩=some (.int .i64 x.la)/\w.cell? ⟨g,2,none⟩=some (.int .i64 x.lnum)/\w.cell? ⟨g,3,none⟩=some (.int .i64 x.ra)/\w.cell? ⟨g,4,none⟩=some (.int .i64 x.rnum)/\w.cell? ⟨g,5,none⟩=some (.int .i64 x.n)/\w.cell? ⟨g,6,none⟩=some (.int .i64 x.user):=by
 refine ⟨?_,?_,?_,?_,?_,?_,?_⟩<;>rw[h.cell]<;>rfl
theorem plain_any (w:World) (m:MC) (s:SC) (x:Nm.Inst) (hG:Good w m s) (hnU:m.nU<=1000):Calls Tryz.prog 65 #[.agg (mA m),.agg (sA s),.agg (iA x)] w fun e w'=>e=.returned (.bool (plainB m s x))/\Chg (fun _=>False) w w':=by
 obtain ⟨h1,h2,h3⟩:=cells3 w 32 134 83 (mA m) (sA s) (iA x);have hC:=zI (chg3 w (.cells (mA m) 32) (.cells (sA s) 134) (.cells (iA x) 83));have HG:=zI (hG.later hC.out);obtain ⟨e0,e1,e2,e3,e4,e5,e6,e7,e8,e9⟩:=mcells h1;obtain ⟨f0,f1,f2,f3,f4⟩:=scells h2;obtain ⟨g0,-,-,-,-,g5,g6⟩:=icells h3;obtain ⟨w1,hw1⟩:∃ w1,w1=(((w.alloc (.cells (mA m) 32)).alloc (.cells (sA s) 134)).alloc (.cells (iA x) 83)):=⟨_,rfl⟩;rw[<-hw1] at HG hC;clear h1 h2 h3 hG;unfold mA sA iA at hw1 e0 e1 e2 e3 e4 e5 e6 e7 e8 e9 f0 f1 f2 f3 f4 g0 g5 g6 |-;by_cases c1:x.op=1
 ·have hv:Hid (plainB m s x=true):=by show _=_;unfold plainB;rw[if_pos c1]
  rw[c1] at g0 hw1 |-;clear c1;go_enter Tryz.func65,Tryz.ntmps65;go_wp2
  go_ret;rw[hw1] at hC;exact ⟨by rw[hv.out];rfl,hC.out⟩
 by_cases c9:x.op=9
 ·have hv:Hid (plainB m s x=hasB s.op x.n):=by show _=_;unfold plainB;simp[c9]
  rw[c9] at g0 hw1 |-;clear c1 c9;go_enter Tryz.func65,Tryz.ntmps65;go_wp2_with (go_at_call 99;refine (refHas_any _ s.op x.n HG.out.opR).mono ?_;rintro e w' ⟨rfl,rfl⟩)
  go_ret;rw[hw1] at hC;exact ⟨by rw[hv.out];rfl,hC.out⟩
 by_cases c10:x.op=10
 ·have hv:Hid (plainB m s x=hasB s.dn x.n):=by show _=_;unfold plainB;simp[c10]
  rw[c10] at g0 hw1 |-;clear c1 c9 c10;go_enter Tryz.func65,Tryz.ntmps65;go_wp2_with (go_at_call 99;refine (refHas_any _ s.dn x.n HG.out.dnR).mono ?_;rintro e w' ⟨rfl,rfl⟩)
  go_ret;rw[hw1] at hC;exact ⟨by rw[hv.out];rfl,hC.out⟩
 by_cases c11:x.op=11
 ·have hv:Hid (plainB m s x=decide (0 < (whoL m s x.n m.nU).length)):=by show _=_;unfold plainB;simp[c11]
  rw[c11] at g0 hw1 |-;clear c1 c9 c10 c11;obtain ⟨q,hq⟩:∃ q,q=(whoL m s x.n m.nU).length:=⟨_,rfl⟩;rw[<-hq] at hv;have HW:=zI (refWho_any w1 m s x.n HG.out hnU);unfold WhoR at HW;rw[<-hq] at HW;clear hq;go_enter Tryz.func65,Tryz.ntmps65;go_wp2_with (go_at_call 56;rw[<-hw1];refine (HW.out).mono ?_;rintro e w2 ⟨A2,c2,rfl,hm2,hR2,hC2⟩;have C2:=zI (Ct hC.out hC2);clear hR2 hC2)
  go_ret;exact ⟨by rw[hv.out];exact ret_val (by show Value.bool _=Value.bool _;congr 1),C2.out⟩
 by_cases c12:x.op=12
 ·have hv:Hid (plainB m s x=hasB (atV s.did x.n) x.user):=by show _=_;unfold plainB;simp[c12]
  rw[c12] at g0 hw1 |-;clear c1 c9 c10 c11 c12;go_enter Tryz.func65,Tryz.ntmps65;go_wp2_with (go_at_call 100;rw[<-hw1];refine (had_any w1 m s x.n x.user HG.out).mono ?_;rintro e w2 ⟨rfl,hC2⟩;have C2:=zI (Ct hC.out hC2);clear hC2)
  go_ret;exact ⟨by rw[hv.out];rfl,C2.out⟩
 by_cases c13:x.op=13
 ·have hv:Hid (plainB m s x=com m s):=by show _=_;unfold plainB;simp[c13]
  rw[c13] at g0 hw1 |-;clear c1 c9 c10 c11 c12 c13;go_enter Tryz.func65,Tryz.ntmps65;go_wp2_with (go_at_call 101;rw[<-hw1];refine (refCom_any w1 m s HG.out).mono ?_;rintro e w2 ⟨rfl,hC2⟩;have C2:=zI (Ct hC.out hC2);clear hC2)
  go_ret;exact ⟨by rw[hv.out];rfl,C2.out⟩
 by_cases c14:x.op=14
 ·have hv:Hid (plainB m s x=stuckB m s):=by show _=_;unfold plainB;simp[c14]
  rw[c14] at g0 hw1 |-;clear c1 c9 c10 c11 c12 c13 c14;go_enter Tryz.func65,Tryz.ntmps65;go_wp2_with (go_at_call 102;rw[<-hw1];refine (refStuck_any w1 m s HG.out hnU).mono ?_;rintro e w2 ⟨rfl,hC2⟩;have C2:=zI (Ct hC.out hC2);clear hC2)
  go_ret;exact ⟨by rw[hv.out];rfl,C2.out⟩
 ·have hv:Hid (plainB m s x=false):=by show _=_;unfold plainB;simp[c1,c9,c10,c11,c12,c13,c14]
  have d1:(x.op ==1)=false:=by rw[bF];exact c1
  have d9:(x.op ==9)=false:=by rw[bF];exact c9
  have d10:(x.op ==10)=false:=by rw[bF];exact c10
  have d11:(x.op ==11)=false:=by rw[bF];exact c11
  have d12:(x.op ==12)=false:=by rw[bF];exact c12
  have d13:(x.op ==13)=false:=by rw[bF];exact c13
  have d14:(x.op ==14)=false:=by rw[bF];exact c14
  clear c1 c9 c10 c11 c12 c13 c14;go_enter Tryz.func65,Tryz.ntmps65;go_wp2
  go_ret;rw[hw1] at hC;exact ⟨by rw[hv.out];rfl,hC.out⟩
end
end Go.Proofs.YthohgagkjnbkbaaGreat
