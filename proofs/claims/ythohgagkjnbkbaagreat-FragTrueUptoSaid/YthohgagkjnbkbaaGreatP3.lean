/- FragTrue, part 3: FrBool FrNext FrItems FrCps FrCmp FrCap FrClip FrSort. Each theorem says what a function does, or a plain fact, under its own premises alone. -/
import Derived.Test.YthohgagkjnbkbaaGreatP2
set_option maxRecDepth 100000
set_option maxHeartbeats 16000000
namespace Go.Proofs.YthohgagkjnbkbaaGreat
section
open Go.RowKit
def boolsV (l:List Bool):List Value:=l.map Value.bool
theorem boolsV_append (a b:List Bool):boolsV (a++b)=boolsV a++boolsV b:=by simp[boolsV]
theorem boolsV_len (a:List Bool):(boolsV a).length=a.length:=by simp[boolsV]
theorem bool_info:(Tryz.prog.info? 4).map (fun i=>(i.zero,i.size,i.bytes))=some (some (.bool false),1,1):=by kernel_rfl
def BoR (w0:World) (l:List Bool) (e:Ending) (w':World):Prop:=
 ∃ A c,e=.returned (.slice A l.length c)/\l.length<=c/\c<=maxLen/\Rd w' w'.heap.size A (boolsV l)/\Chg (fun _=>False) w0 w'/\∀ ad,A=some ad->w0.heap.size<=ad.block
theorem vals_at {w:World} {B:Nat} {A:Option Addr} {xs:List Value} (h:Rd w B A xs) {i:Nat} {u:Value} (hi:xs[i]?=some u):∃ b o,A=some ⟨b,o,none⟩/\b < B/\w.cell? ⟨b,o+i,none⟩=some u:=by
 obtain ⟨b,o,hA,hb,hc⟩:=h.plain (Nat.lt_of_le_of_lt (Nat.zero_le _) (List.getElem?_eq_some_iff.1 hi).1);exact ⟨b,o,hA,hb,hc i u hi⟩
theorem bool_at {w:World} {B:Nat} {A:Option Addr} {l:List Bool} (h:Rd w B A (boolsV l)) {i:Nat} {x:Bool} (hi:l[i]?=some x):∃ b o,A=some ⟨b,o,none⟩/\b < B/\w.cell? ⟨b,o+i,none⟩=some (.bool x):=
 vals_at h (by simp[boolsV,hi])
theorem int_at {w:World} {B:Nat} {A:Option Addr} {l:List Int} (h:Rd w B A (intsV l)) {i:Nat} {x:Int} (hi:l[i]?=some x):∃ b o,A=some ⟨b,o,none⟩/\b < B/\w.cell? ⟨b,o+i,none⟩=some (.int .i64 x):=
 vals_at h (by simp[intsV,hi])
def isB (a:List Bool) (i:Int):Bool:=decide (0<=i) && a.getD i.toNat false
theorem isB_nat (a:List Bool) (i:Nat):isB a i=a.getD i false:=by simp[isB]
theorem is_any (w:World) (a:List Bool) (A:Option Addr) (c:Nat) (i:Int) (hR:Rd w w.heap.size A (boolsV a)):Calls Tryz.prog 35 #[.slice A a.length c,.int .i64 i] w fun e w'=>e=.returned (.bool (isB a i))/\w=w':=by
 by_cases h0:0<=i
 ·obtain ⟨k,rfl⟩:∃ k:Nat,i=k:=⟨i.toNat,by omega⟩;rw[isB_nat];by_cases h1:k < a.length
  ·obtain ⟨b,o,rfl,hb,hc⟩:=bool_at hR (gG h1);have hx:Hid (a.getD k false=a[k]):=by show _=_;simp[List.getD_eq_getElem?_getD,h1]
   obtain ⟨x,hxx⟩:∃ x,x=a[k]:=⟨_,rfl⟩;rw[<-hxx] at hc hx;clear hxx hR;have d1:decide ((0:Int)<=k)=true:=by simp
   have d2:decide ((k:Int) < a.length)=true:=by simpa using h1
   go_enter Tryz.func35,Tryz.ntmps35;go_wp2
   go_ret;exact ⟨by rw[hx.out];rfl,rfl⟩
  ·have hx:Hid (a.getD k false=false):=by show _=_;rw[List.getD_eq_getElem?_getD,List.getElem?_eq_none (by omega)];rfl
   have d1:decide ((0:Int)<=k)=true:=by simp
   have d2:decide ((k:Int) < a.length)=false:=by simpa using h1
   clear hR;go_enter Tryz.func35,Tryz.ntmps35;go_wp2
   go_ret;exact ⟨by rw[hx.out];rfl,rfl⟩
 ·have hx:Hid (isB a i=false):=by show _=_;simp[isB];omega
  have d1:decide (0<=i)=false:=by simpa using h0
  clear hR h0;go_enter Tryz.func35,Tryz.ntmps35;go_wp2
  go_ret;exact ⟨by rw[hx.out];rfl,rfl⟩
theorem app1 {w0 wr w':World} {v:Value} {t:TypeId} {n:Nat} {xs:List Value} (ho:wr.ownsRow w0.heap.size t 1 v n xs) (hC:Chg (fun _=>False) w0 wr) (o:Obj) (hg:(wr.alloc o).grownBy w' v.ownBlock):Chg (fun _=>False) w0 w':=
 Chg.trans hC (Chg.grown (S:=fun k=>v.ownBlock=some k) ((Chg.refl _ wr).alloc o) hg (fun k hk=>.inl hk)) (fun i hi e=>by have:=(ho.lt i e).1;omega)
def upTo (f:Nat->Bool) (j:Nat):List Bool:=(List.range j).map f
theorem upTo_succ (f:Nat->Bool) (j:Nat):upTo f (j+1)=upTo f j++[f j]:=by simp[upTo,List.range_succ]
theorem upTo_len (f:Nat->Bool) (j:Nat):(upTo f j).length=j:=by simp[upTo]
theorem own_base {w w0:World} {base n m c:Nat} {t:TypeId} {ad:Addr} {xs:List Value} (hb:w0.heap.size<=base) (hO:w.ownsRow base t 1 (.slice (some ad) n c) m xs):w0.heap.size<=ad.block:=by
 rcases hO.2 with ⟨e,_⟩ | ⟨g,cap,cur,e,hg,_⟩
 ·cases e
 ·injection e with e _ _;injection e with e;subst e;exact Nat.le_trans hb hg
theorem bor_end {w0 w1 wr:World} {A:Option Addr} {c n:Nat} {f:Nat->Bool} (hC0:Chg (fun _=>False) w0 w1) (hO:wr.ownsRow w1.heap.size 4 1 (.slice A n c) n (boolsV (upTo f n))) (hC:Chg (fun _=>False) w1 wr):BoR w0 (upTo f n) (.returned (.slice A n c)) wr:=by
 obtain ⟨A',c',e,h1,h2⟩:=own_slice hO;injection e with e1 _ e2;subst e1;subst e2;exact ⟨A,c,by rw[upTo_len],by rw[upTo_len];exact h1,h2,own_rd hO,Ct hC0 hC,fun ad he=>by subst he;exact own_base hC0.size hO⟩
theorem constant_any (w:World) (n:Nat) (b:Bool) (hn:n<=100000):Calls Tryz.prog 70 #[.int .i64 n,.bool b] w fun e w'=>BoR w (upTo (fun _=>b) n) e w':=by
 obtain ⟨i,hi,hzz⟩:=Option.map_eq_some_iff.1 bool_info;simp only[Prod.mk.injEq] at hzz;obtain ⟨hz0,hz1,hz2⟩:=hzz;go_enter Tryz.func70,Tryz.ntmps70;go_wp2_with fail
 go_loopw [6,5] (fun x v wr=>∃ j:Nat,j<=n/\x=.int .i64 j/\Hid (wr.ownsRow w.heap.size 4 1 v j (boolsV (upTo (fun _=>b) j)))/\Hid (Chg (fun _=>False) w wr)) (fun x _ _=>n - (intOf x).toNat)
 case atStart=>exact ⟨0,Nat.zero_le _,rfl,zI (World.ownsRow_nil _ _ _ _),Chg.refl _ _⟩
 case round=>
  obtain ⟨j,hj,rfl,hO,hC⟩:=hrel;by_cases hlt:j < n
  ·have hs:=zI (upTo_succ (fun _=>b) j);go_wp2_with (at_builtin;refine wpList_append_own _ rfl (.tmp 12) (.tmp 14) 47 rfl w.heap.size 4 i _ 1 1 Tryz.underlying47 hi hz0 hz1 hz2 rfl (by omega) u5 j (boolsV (upTo (fun _=>b) j)) rfl (by exact hO.out.alloc _) ⟨wr.heap.size,0,none⟩ 1 1 [.bool b] rfl rfl (by exact all_new (Blk.new wr 4 #[.bool b])) (by intro u hu;simp at hu;subst hu;rfl) (by unfold maxLen;omega) (by omega) (by have:=hC.out.size;simp;omega) ?_;intro v' w3 hown3 hg3 hat3;have HO3:=zI hown3;have HC3:=zI (app1 hO.out hC.out _ hg3);clear hown3 hg3 hat3)
   go_roundw
   case rel=>exact ⟨j+1,by omega,by go_num,zI (by rw[hs.out,boolsV_append];exact HO3.out),HC3⟩
   case measure=>(simp[intOf]<;>omega)
  ·obtain rfl:j=n:=by omega
   obtain ⟨A,c,rfl,hqc,hcm⟩:=own_slice hO.out;clear hqc hcm;go_wp2
   go_ret;exact bor_end (Chg.refl _ w) hO.out hC.out
structure RowI where
 a:Option Addr
 l:List Int
 c:Nat
def rowC (r:RowI):List Value:=[.slice r.a r.l.length r.c]
theorem rowC_len (r:RowI):(rowC r).length=1:=rfl
structure NxOK (w:World) (A:Option Addr) (R:List RowI):Prop where
 rows:Rd w w.heap.size A (R.flatMap rowC)
 each:∀ r ∈ R,Rd w w.heap.size r.a (intsV r.l)/\r.l.length<=10000000000000
 few:R.length<=100000
theorem NxOK.later {w w':World} {A:Option Addr} {R:List RowI} (h:NxOK w A R) (hc:Chg (fun _=>False) w w'):NxOK w' A R:=
 ⟨h.rows.later hc (fun _ h=>h.elim),fun r hr=>⟨(h.each r hr).1.later hc (fun _ h=>h.elim),(h.each r hr).2⟩,h.few⟩
theorem NxOK.row {w:World} {A:Option Addr} {R:List RowI} (h:NxOK w A R) {i:Nat} {r:RowI} (hi:R[i]?=some r):∃ b o,A=some ⟨b,o,none⟩/\w.cell? ⟨b,o+i,none⟩=some (.slice r.a r.l.length r.c)/\Rd w w.heap.size r.a (intsV r.l)/\r.l.length<=10000000000000:=by
 obtain ⟨b,o,hA,_,hc⟩:=row_at rowC_len (by omega) h.rows hi;have:=hc 0 _ rfl;exact ⟨b,o,hA,by simpa using this,(h.each r (List.mem_of_getElem? hi)).1,(h.each r (List.mem_of_getElem? hi)).2⟩
def rowL (R:List RowI) (i:Nat):List Int:=match R[i]? with
 | some r=>r.l
 | none=>[]
theorem rowL_at {R:List RowI} {i:Nat} {r:RowI} (h:R[i]?=some r):rowL R i=r.l:=by simp[rowL,h]
def everyB (R:List RowI) (a:List Bool) (i:Nat):Bool:=(rowL R i).all (isB a)
theorem all_succ {l:List Int} {f:Int->Bool} {k:Nat} {x:Int} (h:l[k]?=some x):(l.take (k+1)).all f=((l.take k).all f && f x):=by
 obtain ⟨hk,rfl⟩:=List.getElem?_eq_some_iff.1 h;rw[List.take_succ_eq_append_getElem hk,List.all_append];simp
theorem any_succ {l:List Int} {f:Int->Bool} {k:Nat} {x:Int} (h:l[k]?=some x):(l.take (k+1)).any f=((l.take k).any f || f x):=by
 obtain ⟨hk,rfl⟩:=List.getElem?_eq_some_iff.1 h;rw[List.take_succ_eq_append_getElem hk,List.any_append];simp
theorem every_any (w:World) (R:List RowI) (a:List Bool) (N A:Option Addr) (d c:Nat) (hN:NxOK w N R) (hR:Rd w w.heap.size A (boolsV a)):Calls Tryz.prog 68 #[.slice N R.length d,.slice A a.length c] w fun e w'=>BoR w (upTo (everyB R a) R.length) e w':=by
 obtain ⟨i,hi,hzz⟩:=Option.map_eq_some_iff.1 bool_info;simp only[Prod.mk.injEq] at hzz;obtain ⟨hz0,hz1,hz2⟩:=hzz;have hn:=hN.few;have HI:=zI (fun (w':World) (h:Chg (fun _=>False) w w') (x:Int)=>is_any w' a A c x (hR.later h (fun _ h=>h.elim)));obtain ⟨f,hf⟩:∃ f:Nat->Bool,f=everyB R a:=⟨_,rfl⟩;rw[<-hf];replace hf:=zI hf;replace hN:=zI hN;clear hR;go_enter Tryz.func68,Tryz.ntmps68;go_wp2_with fail
 go_loopw [6,5,7,8] (fun x v _ _ wr=>∃ j:Nat,j<=R.length/\x=.int .i64 j/\Hid (wr.ownsRow w.heap.size 4 1 v j (boolsV (upTo f j)))/\Hid (Chg (fun _=>False) w wr)) (fun x _ _ _ _=>R.length - (intOf x).toNat)
 case atStart=>exact ⟨0,Nat.zero_le _,rfl,zI (World.ownsRow_nil _ _ _ _),Chg.refl _ _⟩
 case round=>
  obtain ⟨j,hj,rfl,hO,hC⟩:=hrel;by_cases hlt:j < R.length
  ·have hs:=zI (upTo_succ f j);obtain ⟨r,hr⟩:∃ r,R[j]?=some r:=⟨_,gG hlt⟩;obtain ⟨b0,o0,hA,hc,hrd,hrl⟩:=(hN.out.later hC.out).row hr;have hx:Hid (f j=(r.l.take r.l.length).all (isB a)):=by show _=_;rw[hf.out,List.take_length];unfold everyB;rw[rowL_at hr]
   replace hrd:=zI hrd;clear hr;subst hA;have HIr:=zI (fun x=>HI.out wr hC.out x);go_wp2_with fail
   go_loopw [8,7] (fun y t wk=>∃ k:Nat,k<=r.l.length/\y=.int .i64 k/\t=.bool ((r.l.take k).all (isB a))/\wr=wk) (fun y _ _=>r.l.length - (intOf y).toNat)
   case atStart=>exact ⟨0,Nat.zero_le _,rfl,rfl,rfl⟩
   case round=>
    obtain ⟨k,hk,rfl,rfl,rfl⟩:=hrel;by_cases hkl:k < r.l.length
    ·obtain ⟨b1,o1,hA1,_,hc1⟩:=int_at hrd.out (gG hkl);have hs1:=all_succ (f:=isB a) (gG hkl);obtain ⟨x,hxx⟩:∃ x,x=r.l[k]:=⟨_,rfl⟩;rw[<-hxx] at hc1 hs1;clear hxx;rw[hA1] at hc;obtain ⟨sb,hsb⟩:∃ sb,sb=(r.l.take k).all (isB a):=⟨_,rfl⟩;rw[<-hsb] at hs1 |-;clear hsb;replace hs1:=zI hs1;have HIx:=zI (HIr.out x);cases sb with
     | false=>
      go_wp2_with fail
      go_roundw
      case rel=>exact ⟨k+1,by omega,by go_num,by rw[hs1.out];rfl,trivial⟩
      case measure=>(simp[intOf]<;>omega)
     | true=>
      go_wp2_with (go_at_call 35;refine HIx.out.mono ?_;rintro e w' ⟨rfl,rfl⟩)
      go_roundw
      case rel=>exact ⟨k+1,by omega,by go_num,by rw[hs1.out];simp,trivial⟩
      case measure=>(simp[intOf]<;>omega)
    ·obtain rfl:k=r.l.length:=by omega
     obtain ⟨sb,hsb⟩:∃ sb,sb=(r.l.take r.l.length).all (isB a):=⟨_,rfl⟩;rw[<-hsb] at hx |-;clear hsb;go_wp2_with (at_builtin;refine wpList_append_own _ rfl (.tmp 36) (.tmp 38) 47 rfl w.heap.size 4 i _ 1 1 Tryz.underlying47 hi hz0 hz1 hz2 rfl (by omega) u5 j (boolsV (upTo f j)) rfl (by exact hO.out.alloc _) ⟨wr.heap.size,0,none⟩ 1 1 [.bool sb] rfl rfl (by exact all_new (Blk.new wr 4 #[.bool sb])) (by intro u hu;simp at hu;subst hu;rfl) (by unfold maxLen;omega) (by omega) (by have:=hC.out.size;simp;omega) ?_;intro v' w3 hown3 hg3 hat3;have HO3:=zI hown3;have HC3:=zI (app1 hO.out hC.out _ hg3);clear hown3 hg3 hat3)
     go_roundw
     case rel=>exact ⟨j+1,by omega,by go_num,zI (by rw[hs.out,boolsV_append,hx.out];exact HO3.out),HC3⟩
     case measure=>(simp[intOf]<;>omega)
  ·obtain rfl:j=R.length:=by omega
   obtain ⟨A',c',rfl,hqc,hcm⟩:=own_slice hO.out;clear hqc hcm;go_wp2
   go_ret;exact bor_end (Chg.refl _ w) hO.out hC.out
theorem info_3 {t:TypeId} {z:Value} {s b:Nat} (h:(Tryz.prog.info? t).map (fun i=>(i.zero,i.size,i.bytes))=some (some z,s,b)):∃ i,Tryz.prog.info? t=some i/\i.zero=some z/\i.size=s/\i.bytes=b:=by
 obtain ⟨i,hi,hzz⟩:=Option.map_eq_some_iff.1 h;simp only[Prod.mk.injEq] at hzz;exact ⟨i,hi,hzz⟩
theorem itemsUp_len (f:List Nm.Inst) (j:Nat) (h:j<=f.length):(itemsUp f j).length=j:=by simp[itemsUp];omega
def ItR (w0:World) (l:List Nm.Item) (e:Ending) (w':World):Prop:=
 ∃ A c,e=.returned (.slice A l.length c)/\Rd w' w'.heap.size A (cellsI l)/\Chg (fun _=>False) w0 w'
theorem items_any (w:World) (A:Option Addr) (c:Nat) (f:List Nm.Inst) (hl:f.length<=1000000000) (hr:Rd w w.heap.size A (f.flatMap instV7)):
  Calls Tryz.prog 14 #[.slice A f.length c] w fun e w'=>ItR w (f.map toItem) e w':=by
 have HR:=zI hr;clear hr;obtain ⟨i70,hi70,hz0,hz1,hz2⟩:=info_3 item70;go_enter Tryz.func14,Tryz.ntmps14;go_wp2
 go_loopw [8,3] (fun i v wr=>∃ j:Nat,j<=f.length/\i=.int .i64 j/\Hid (Items w wr f j v)) (fun i _ _=>f.length - (intOf i).toNat)
 case atStart=>exact ⟨0,Nat.zero_le _,rfl,Items.start w f⟩
 case round=>
  obtain ⟨j,hj,rfl,hM⟩:=hrel;by_cases hlt:j < f.length
  ·obtain ⟨x,hx⟩:∃ x,f[j]?=some x:=⟨_,gG hlt⟩;obtain ⟨xb,o,hA,hxb,c0,c1,c2,c3,c4,c5,c6⟩:=ins_at (HR.out.chg hM.out.chg (Nat.le_refl _) (fun _ h=>h.elim)) hx;subst hA;have HX:=zI hx;have hsz:=hM.out.chg.size;have y0:(wr.alloc (.cells #[.int .i64 x.op,.int .i64 x.la,.int .i64 x.lnum,.int .i64 x.ra,.int .i64 x.rnum,.int .i64 x.n,.int .i64 x.user] 83)).cell? ⟨wr.heap.size,0,none⟩=some (.int .i64 x.op):=by rw[(Blk.new wr 83 _).cell];rfl
   clear hx;go_wp2_with (at_builtin;refine wpList_append_lies _ rfl (.tmp 12) (.tmp 16) 60 rfl w.heap.size 110 i70 _ 9 104 Tryz.underlying60 hi70 hz0 hz1 hz2 rfl (by omega) u3 j (cellsI (itemsUp f j)) rfl (by exact World.ownsRow.alloc (World.ownsRow.alloc hM.out.own _) _) ⟨wr.heap.size+1,0,none⟩ 1 1 (itemC (toItem x)) rfl rfl (by exact all_new (blk_new2 wr _ 110 (itemA (toItem x)))) (by intro u hu;rw[itemC_to] at hu;simp at hu;rcases hu with rfl | rfl | rfl | rfl | rfl | rfl | rfl | rfl | rfl<;>rfl) (by omega) (by unfold maxLen;omega) (by omega) (by simp;omega) (wr.heap.size+1+1) (by simp) ?_;intro g cap w3 hown3 hg3 hat3 hlt3;have HI3:=zI (hM.out.more HX.out (((Chg.refl _ wr).alloc _).alloc _) hown3 hg3);clear hown3 hg3 hat3 hlt3)
   clear c0 c1 c2 c3 c4 c5 c6 y0 hsz;go_roundw
   case rel=>exact ⟨j+1,by omega,by go_num,HI3⟩
   case measure=>(simp[intOf]<;>omega)
  ·obtain rfl:j=f.length:=by omega
   obtain ⟨A5,cap5,h5,_,_⟩:=own_slice hM.out.own;have hown:=hM.out.own;rw[h5,itemsUp_all] at hown;have HO:=zI (own_rdN hown);have HC:=zI hM.out.chg;rw[h5];clear hown hM h5;go_wp2
   go_ret;exact ⟨A5,cap5,by rw[List.length_map];rfl,HO.out,HC.out⟩
theorem refItems_any (w:World) (A:Option Addr) (c:Nat) (f:List Nm.Inst) (hr:Rd w w.heap.size A (f.flatMap instV7)):
  Calls Tryz.prog 30 #[.slice A f.length c] w fun e w'=>ItR w (itemsUp f (min f.length 70)) e w':=by
 have HR:=zI hr;clear hr;obtain ⟨i70,hi70,hz0,hz1,hz2⟩:=info_3 item70;go_enter Tryz.func30,Tryz.ntmps30;go_wp2
 go_loopw [4,3] (fun i v wr=>∃ j:Nat,j<=f.length/\j<=70/\i=.int .i64 j/\Hid (Items w wr f j v)) (fun i _ _=>70 - (intOf i).toNat)
 case atStart=>exact ⟨0,Nat.zero_le _,Nat.zero_le _,rfl,Items.start w f⟩
 case round=>
  obtain ⟨j,hj,hj70,rfl,hM⟩:=hrel;by_cases hlt:j < f.length
  ·have d1:decide ((j:Int) < (f.length:Int))=true:=by rw[dT];omega
   by_cases hl7:j < 70
   ·have d2:decide ((j:Int) < 70)=true:=by rw[dT];omega
    obtain ⟨x,hx⟩:∃ x,f[j]?=some x:=⟨_,gG hlt⟩;obtain ⟨xb,o,hA,hxb,c0,c1,c2,c3,c4,c5,c6⟩:=ins_at (HR.out.chg hM.out.chg (Nat.le_refl _) (fun _ h=>h.elim)) hx;subst hA;have HX:=zI hx;have hsz:=hM.out.chg.size;clear hx c1 c2 c3 c4 c5 c6;go_wp2_with (at_builtin;refine wpList_append_lies _ rfl (.tmp 15) (.tmp 22) 60 rfl w.heap.size 110 i70 _ 9 104 Tryz.underlying60 hi70 hz0 hz1 hz2 rfl (by omega) u3 j (cellsI (itemsUp f j)) rfl (by exact World.ownsRow.alloc hM.out.own _) ⟨wr.heap.size,0,none⟩ 1 1 (itemC (toItem x)) rfl rfl (by exact all_new (Blk.new wr 110 (itemA (toItem x)))) (by intro u hu;rw[itemC_to] at hu;simp at hu;rcases hu with rfl | rfl | rfl | rfl | rfl | rfl | rfl | rfl | rfl<;>rfl) (by omega) (by unfold maxLen;omega) (by omega) (by simp;omega) (wr.heap.size+1) (by simp) ?_;intro g cap w3 hown3 hg3 hat3 hlt3;have HI3:=zI (hM.out.more HX.out ((Chg.refl _ wr).alloc _) hown3 hg3);clear hown3 hg3 hat3 hlt3)
    clear c0 hsz;go_roundw
    case rel=>exact ⟨j+1,by omega,by omega,by go_num,HI3⟩
    case measure=>(simp[intOf]<;>omega)
   ·have d2:decide ((j:Int) < 70)=false:=by rw[dF];omega
    obtain rfl:j=70:=by omega
    have hmn:min f.length 70=70:=by omega
    obtain ⟨A5,cap5,h5,_,_⟩:=own_slice hM.out.own;have hown:=hM.out.own;rw[h5] at hown;have HO:=zI (own_rdN hown);have HC:=zI hM.out.chg;rw[h5];clear hown hM h5;go_wp2
    go_ret;exact ⟨A5,cap5,by rw[hmn,itemsUp_len _ _ hj];rfl,by rw[hmn];exact HO.out,HC.out⟩
  ·obtain rfl:j=f.length:=by omega
   have hmn:min f.length 70=f.length:=by omega
   obtain ⟨A5,cap5,h5,_,_⟩:=own_slice hM.out.own;have hown:=hM.out.own;rw[h5] at hown;have HO:=zI (own_rdN hown);have HC:=zI hM.out.chg;rw[h5];clear hown hM h5;go_wp2
   go_ret;exact ⟨A5,cap5,by rw[hmn,itemsUp_len _ _ hj];rfl,by rw[hmn];exact HO.out,HC.out⟩
theorem refShape_any (w:World) (A:Option Addr) (c:Nat) (f:List Nm.Inst) (hr:Rd w w.heap.size A (f.flatMap instV7)):
  Calls Tryz.prog 122 #[.slice A f.length c] w fun e w'=>ItR w (itemsUp f (min f.length 70)) e w':=by
 have HR:=zI hr;clear hr;obtain ⟨i70,hi70,hz0,hz1,hz2⟩:=info_3 item70;go_enter Tryz.func122,Tryz.ntmps122;go_wp2
 go_loopw [4,3] (fun i v wr=>∃ j:Nat,j<=f.length/\j<=70/\i=.int .i64 j/\Hid (Items w wr f j v)) (fun i _ _=>70 - (intOf i).toNat)
 case atStart=>exact ⟨0,Nat.zero_le _,Nat.zero_le _,rfl,Items.start w f⟩
 case round=>
  obtain ⟨j,hj,hj70,rfl,hM⟩:=hrel;by_cases hlt:j < f.length
  ·have d1:decide ((j:Int) < (f.length:Int))=true:=by rw[dT];omega
   by_cases hl7:j < 70
   ·have d2:decide ((j:Int) < 70)=true:=by rw[dT];omega
    obtain ⟨x,hx⟩:∃ x,f[j]?=some x:=⟨_,gG hlt⟩;obtain ⟨xb,o,hA,hxb,c0,c1,c2,c3,c4,c5,c6⟩:=ins_at (HR.out.chg hM.out.chg (Nat.le_refl _) (fun _ h=>h.elim)) hx;subst hA;have HX:=zI hx;have hsz:=hM.out.chg.size;clear hx c1 c2 c3 c4 c5 c6;go_wp2_with (at_builtin;refine wpList_append_lies _ rfl (.tmp 15) (.tmp 22) 60 rfl w.heap.size 110 i70 _ 9 104 Tryz.underlying60 hi70 hz0 hz1 hz2 rfl (by omega) u3 j (cellsI (itemsUp f j)) rfl (by exact World.ownsRow.alloc hM.out.own _) ⟨wr.heap.size,0,none⟩ 1 1 (itemC (toItem x)) rfl rfl (by exact all_new (Blk.new wr 110 (itemA (toItem x)))) (by intro u hu;rw[itemC_to] at hu;simp at hu;rcases hu with rfl | rfl | rfl | rfl | rfl | rfl | rfl | rfl | rfl<;>rfl) (by omega) (by unfold maxLen;omega) (by omega) (by simp;omega) (wr.heap.size+1) (by simp) ?_;intro g cap w3 hown3 hg3 hat3 hlt3;have HI3:=zI (hM.out.more HX.out ((Chg.refl _ wr).alloc _) hown3 hg3);clear hown3 hg3 hat3 hlt3)
    clear c0 hsz;go_roundw
    case rel=>exact ⟨j+1,by omega,by omega,by go_num,HI3⟩
    case measure=>(simp[intOf]<;>omega)
   ·have d2:decide ((j:Int) < 70)=false:=by rw[dF];omega
    obtain rfl:j=70:=by omega
    have hmn:min f.length 70=70:=by omega
    obtain ⟨A5,cap5,h5,_,_⟩:=own_slice hM.out.own;have hown:=hM.out.own;rw[h5] at hown;have HO:=zI (own_rdN hown);have HC:=zI hM.out.chg;rw[h5];clear hown hM h5;go_wp2
    go_ret;exact ⟨A5,cap5,by rw[hmn,itemsUp_len _ _ hj];rfl,by rw[hmn];exact HO.out,HC.out⟩
  ·obtain rfl:j=f.length:=by omega
   have hmn:min f.length 70=f.length:=by omega
   obtain ⟨A5,cap5,h5,_,_⟩:=own_slice hM.out.own;have hown:=hM.out.own;rw[h5] at hown;have HO:=zI (own_rdN hown);have HC:=zI hM.out.chg;rw[h5];clear hown hM h5;go_wp2
   go_ret;exact ⟨A5,cap5,by rw[hmn,itemsUp_len _ _ hj];rfl,by rw[hmn];exact HO.out,HC.out⟩
def iA (x:Nm.Inst):Array Value:=#[.int .i64 x.op,.int .i64 x.la,.int .i64 x.lnum,.int .i64 x.ra,.int .i64 x.rnum,.int .i64 x.n,.int .i64 x.user]
def cpsB (op:Int):Bool:=decide (3<=op) && decide (op<=8)
theorem compares_any (w:World) (x:Nm.Inst):Calls Tryz.prog 63 #[.agg (iA x)] w fun e w'=>e=.returned (.bool (cpsB x.op))/\Chg (fun _=>False) w w':=by
 have i0:(w.alloc (.cells (iA x) 83)).cell? ⟨w.heap.size,0,none⟩=some (.int .i64 x.op):=by rw[(Blk.new w 83 _).cell];rfl
 obtain ⟨a,ha⟩:∃ a,decide (3<=x.op)=a:=⟨_,rfl⟩;obtain ⟨b,hb⟩:∃ b,decide (x.op<=8)=b:=⟨_,rfl⟩;have hv:Hid (cpsB x.op=(a && b)):=by show _=_;unfold cpsB;rw[ha,hb]
 unfold iA at i0 |-;cases a<;>cases b;all_goals (go_enter Tryz.func63,Tryz.ntmps63)
 all_goals go_wp2
 all_goals go_ret
 all_goals exact ⟨by rw[hv.out];rfl,(Chg.refl _ w).alloc _⟩
def cmpB (op a b:Int):Bool:=if op=3 then decide (a < b) else if op=4 then decide (a<=b) else if op=5 then decide (b < a) else if op=6 then decide (b<=a) else if op=7 then a ==b else (op ==8) && !(a ==b)
theorem cmp_any (w:World) (op a b:Int):Calls Tryz.prog 130 #[.int .i64 op,.int .i64 a,.int .i64 b] w fun e w'=>e=.returned (.bool (cmpB op a b))/\w=w':=by
 by_cases h3:op=3
 ·subst h3;go_enter Tryz.func130,Tryz.ntmps130;go_wp2
  go_ret;exact ⟨rfl,rfl⟩
 by_cases h4:op=4
 ·subst h4;go_enter Tryz.func130,Tryz.ntmps130;go_wp2
  go_ret;exact ⟨rfl,rfl⟩
 by_cases h5:op=5
 ·subst h5;go_enter Tryz.func130,Tryz.ntmps130;go_wp2
  go_ret;exact ⟨rfl,rfl⟩
 by_cases h6:op=6
 ·subst h6;go_enter Tryz.func130,Tryz.ntmps130;go_wp2
  go_ret;exact ⟨rfl,rfl⟩
 by_cases h7:op=7
 ·subst h7;go_enter Tryz.func130,Tryz.ntmps130;go_wp2
  go_ret;exact ⟨rfl,rfl⟩
 by_cases h8:op=8
 ·subst h8;go_enter Tryz.func130,Tryz.ntmps130;go_wp2
  go_ret;exact ⟨rfl,rfl⟩
 ·have hz:Hid (cmpB op a b=false):=by
   show _=_;have e8:(op ==8)=false:=by rw[bF];exact h8
   simp[cmpB,h3,h4,h5,h6,h7,e8]
  have e3:(op ==3)=false:=by rw[bF];exact h3
  have e4:(op ==4)=false:=by rw[bF];exact h4
  have e5:(op ==5)=false:=by rw[bF];exact h5
  have e6:(op ==6)=false:=by rw[bF];exact h6
  have e7:(op ==7)=false:=by rw[bF];exact h7
  have e8:(op ==8)=false:=by rw[bF];exact h8
  clear h3 h4 h5 h6 h7 h8;go_enter Tryz.func130,Tryz.ntmps130;go_wp2
  go_ret;exact ⟨by rw[hz.out];rfl,rfl⟩
def capN (r:Int):Nat:=2 ^ (min r 20).toNat - 1
theorem cap_any (w:World) (r:Int):Calls Tryz.prog 107 #[.int .i64 r] w fun e w'=>e=.returned (.int .i64 (capN r))/\w=w':=by
 go_enter Tryz.func107,Tryz.ntmps107;go_wp2_with fail
 go_loopw [4,3] (fun x v wr=>∃ j:Nat,(j:Int)<=max r 0/\j<=20/\x=.int .i64 j/\v=.int .i64 ((2 ^ j - 1:Nat):Int)/\w=wr) (fun x _ _=>20 - (intOf x).toNat)
 case atStart=>exact ⟨0,by simp;omega,by omega,rfl,rfl,rfl⟩
 case round=>
  obtain ⟨j,hj,hj20,rfl,rfl,rfl⟩:=hrel;have hp:2 ^ j<=2 ^ 20:=Nat.pow_le_pow_right (by omega) hj20;have hp1:1<=2 ^ j:=Nat.one_le_two_pow;obtain ⟨v,hv⟩:∃ v,v=2 ^ j - 1:=⟨_,rfl⟩;have hv2:Hid (2 ^ (j+1) - 1=2 * v+1):=by show _=_;rw[hv,Nat.pow_succ];omega
  have hvb:v<=1048576:=by rw[hv];omega
  rw[<-hv];by_cases h1:(j:Int) < r
  ·have d1:decide ((j:Int) < r)=true:=by simpa using h1
   by_cases h2:j < 20
   ·have d2:decide ((j:Int) < 20)=true:=by rw[dT];omega
    clear hp hp1 hv;go_wp2_with fail
    go_roundw
    case rel=>exact ⟨j+1,by omega,by omega,by go_num,by rw[hv2.out];go_num,trivial⟩
    case measure=>(simp[intOf]<;>omega)
   ·have d2:decide ((j:Int) < 20)=false:=by rw[dF];omega
    have hc:Hid (capN r=v):=by show _=_;unfold capN;rw[hv];congr 2;omega
    clear hp hp1 hv;go_wp2
    go_ret;exact ⟨by rw[hc.out];rfl,rfl⟩
  ·have d1:decide ((j:Int) < r)=false:=by simpa using h1
   have hc:Hid (capN r=v):=by show _=_;unfold capN;rw[hv];congr 2;omega
   clear hp hp1 hv;go_wp2
   go_ret;exact ⟨by rw[hc.out];rfl,rfl⟩
def clipN (g r:Int):Int:=if g < 0 then 0 else min g (capN r)
theorem clip_le (g r:Int):0<=clipN g r/\clipN g r<=capN r:=by unfold clipN;split<;>omega
theorem capN_le (r:Int):capN r<=1048575:=by
 have:2 ^ (min r 20).toNat<=2 ^ 20:=Nat.pow_le_pow_right (by omega) (by omega);unfold capN;omega
theorem clip_any (w:World) (g r:Int):Calls Tryz.prog 126 #[.int .i64 g,.int .i64 r] w fun e w'=>e=.returned (.int .i64 (clipN g r))/\w=w':=by
 have HC:=zI (cap_any w r);by_cases h0:g < 0
 ·have d0:decide (g < 0)=true:=by simpa using h0
  have hv:Hid (clipN g r=0):=by show _=_;unfold clipN;rw[if_pos h0]
  clear h0;go_enter Tryz.func126,Tryz.ntmps126;go_wp2
  go_ret;exact ⟨by rw[hv.out];rfl,rfl⟩
 ·have d0:decide (g < 0)=false:=by simpa using h0
  have hv:Hid (clipN g r=min g (capN r)):=by show _=_;unfold clipN;rw[if_neg h0]
  clear h0;go_enter Tryz.func126,Tryz.ntmps126;go_wp2_with (go_at_call 107;refine HC.out.mono ?_;rintro e w' ⟨rfl,rfl⟩)
  all_goals go_ret
  all_goals exact ⟨by rw[hv.out];exact ret_int (by show _=_;first | exact (Int.min_eq_left (by omega)).symm | exact (Int.min_eq_right (by omega)).symm),rfl⟩
def insS (x:Int) (a:List Int × Bool) (y:Int):List Int × Bool:=
 let b:List Int × Bool:=if a.2=false/\x<=y then (a.1++[x],true) else a
 if y=x then b else (b.1++[y],b.2)
def insUp (x:Int) (o:List Int) (k:Nat):List Int × Bool:=(o.take k).foldl (insS x) ([],false)
def insO (x:Int) (o:List Int):List Int:=let a:=insUp x o o.length;if a.2=true then a.1 else a.1++[x]
def srtUp (l:List Int) (i:Nat):List Int:=(l.take i).foldl (fun o x=>insO x o) []
def srt (l:List Int):List Int:=srtUp l l.length
theorem insUp_succ {x y:Int} {o:List Int} {k:Nat} (h:o[k]?=some y):insUp x o (k+1)=insS x (insUp x o k) y:=by
 obtain ⟨hk,rfl⟩:=List.getElem?_eq_some_iff.1 h;unfold insUp;rw[List.take_succ_eq_append_getElem hk,List.foldl_append];rfl
theorem srtUp_succ {l:List Int} {i:Nat} {x:Int} (h:l[i]?=some x):srtUp l (i+1)=insO x (srtUp l i):=by
 obtain ⟨hk,rfl⟩:=List.getElem?_eq_some_iff.1 h;unfold srtUp;rw[List.take_succ_eq_append_getElem hk,List.foldl_append];rfl
theorem insUp_le (x:Int) (o:List Int):∀ k,k<=o.length->(insUp x o k).1.length<=k+(if (insUp x o k).2=true then 1 else 0):=by
 intro k
 induction k with
 | zero=>intro _;simp[insUp]
 | succ k ih=>
  intro hk;have:=ih (by omega);rw[insUp_succ (gG (show k < o.length by omega))];revert this
  generalize insUp x o k=p;obtain ⟨a,b⟩:=p;intro this;unfold insS;simp only at this |-;cases b
  ·by_cases h1:x<=o[k]
   ·by_cases h2:o[k]=x<;>simp[h1,h2]<;>(try simp at this)<;>omega
   ·have h2:o[k] ≠ x:=by omega
    simp[h1,h2];(try simp at this);omega
  ·by_cases h2:o[k]=x<;>simp[h2]<;>(try simp at this)<;>omega
theorem insO_le (x:Int) (o:List Int):(insO x o).length<=o.length+1:=by
 have:=insUp_le x o o.length (Nat.le_refl _);unfold insO;simp only;split
 ·rename_i h;rw[h] at this;simpa using this
 ·rename_i h;simp[h] at this |-;exact this
theorem srtUp_le (l:List Int):∀ i,i<=l.length->(srtUp l i).length<=i:=by
 intro i
 induction i with
 | zero=>intro _;simp[srtUp]
 | succ i ih=>
  intro hi;rw[srtUp_succ (gG (show i < l.length by omega))];have:=insO_le l[i] (srtUp l i);have:=ih (by omega);omega
theorem int64_info:(Tryz.prog.info? 2).map (fun i=>(i.zero,i.size,i.bytes))=some (some (.int .i64 0),1,8):=by kernel_rfl
end
end Go.Proofs.YthohgagkjnbkbaaGreat
