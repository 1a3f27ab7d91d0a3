/- FragTrue, part 18: FrNum FrSets FrHas11. Each theorem says what a function does, or a plain fact, under its own premises alone. -/
import Derived.Test.YthohgagkjnbkbaaGreatP17
set_option maxRecDepth 100000
set_option maxHeartbeats 16000000
namespace Go.Proofs.YthohgagkjnbkbaaGreat
section
open Go.RowKit
theorem ins_cells {w:World} {B b o:Nat} {f:List Nm.Inst} (h:Rd w B (some ⟨b,o,none⟩) (f.flatMap instV7)) {i:Nat} {x:Nm.Inst} (hi:f[i]?=some x):
  w.cell? ⟨b,o+i * 7,none⟩=some (.int .i64 x.op)/\w.cell? ⟨b,o+i * 7+1,none⟩=some (.int .i64 x.la)/\w.cell? ⟨b,o+i * 7+2,none⟩=some (.int .i64 x.lnum)/\w.cell? ⟨b,o+i * 7+3,none⟩=some (.int .i64 x.ra)/\w.cell? ⟨b,o+i * 7+4,none⟩=some (.int .i64 x.rnum)/\w.cell? ⟨b,o+i * 7+5,none⟩=some (.int .i64 x.n)/\w.cell? ⟨b,o+i * 7+6,none⟩=some (.int .i64 x.user):=by
 obtain ⟨b',o',e,_,h⟩:=ins_at h hi;injection e with e;injection e with e1 e2 _;subst e1;subst e2;exact h
theorem ins_some {w:World} {B:Nat} {A:Option Addr} {f:List Nm.Inst} (h:Rd w B A (f.flatMap instV7)) {i:Nat} {x:Nm.Inst} (hi:f[i]?=some x):∃ b o,A=some ⟨b,o,none⟩:=by
 obtain ⟨b',o',e,_⟩:=ins_at h hi;exact ⟨b',o',e⟩
def NuR (w0:World) (n:Nat) (v:Value) (w':World):Prop:=∃ (A:Option Addr) (c:Nat) (q:List Int),v=.slice A q.length c/\q.length<=n/\Rd w' w'.heap.size A (intsV q)/\Chg (fun _=>False) w0 w'
theorem numbers_any (w:World) (A:Option Addr) (c:Nat) (f:List Nm.Inst) (hl:f.length<=1000) (hr:Rd w w.heap.size A (f.flatMap instV7)):Calls Tryz.prog 25 #[.slice A f.length c] w fun e w'=>∃ v,e=.returned v/\NuR w (2 * f.length) v w':=by
 obtain ⟨i,hi,hz0,hz1,hz2⟩:=info_3 int64_info;replace hr:=zI hr;go_enter Tryz.func25,Tryz.ntmps25;go_wp2_with fail
 go_loopw [4,3] (fun x v wr=>∃ (j:Nat) (q:List Int),j<=f.length/\x=.int .i64 j/\q.length<=2 * j/\Hid (wr.ownsRow w.heap.size 2 1 v q.length (intsV q))/\Hid (Chg (fun _=>False) w wr)) (fun x _ _=>f.length - (intOf x).toNat)
 case atStart=>exact ⟨0,[],Nat.zero_le _,rfl,Nat.le_refl _,zI (World.ownsRow_nil _ _ _ _),Chg.refl _ _⟩
 case round=>
  obtain ⟨j,q,hj,rfl,hq,hO,hC⟩:=hrel;by_cases hlt:j < f.length
  ·obtain ⟨x,hx⟩:∃ x,f[j]?=some x:=⟨_,gG hlt⟩;obtain ⟨b0,o0,rfl⟩:=ins_some hr.out hx;have HI:=zI (fun (w':World) (h:Chg (fun _=>False) w w')=>ins_cells (hr.out.later h (fun _ h=>h.elim)) hx);obtain ⟨c0,c1,c2,c3,c4,c5,c6⟩:=HI.out wr hC.out;clear hx;have hcs:x.op < 3\/8 < x.op\/(3<=x.op/\x.op<=8):=by omega
   rcases hcs with h | h | h
   ·have d1:decide (x.op < 3)=true:=by rw[dT];exact h
    clear h;go_wp2_with fail
    go_roundw
    case rel=>exact ⟨j+1,q,by omega,by go_num,by omega,hO,hC⟩
    case measure=>(simp[intOf]<;>omega)
   ·have d1:decide (x.op < 3)=false:=by rw[dF];omega
    have d2:decide (8 < x.op)=true:=by rw[dT];exact h
    clear h;go_wp2_with fail
    go_roundw
    case rel=>exact ⟨j+1,q,by omega,by go_num,by omega,hO,hC⟩
    case measure=>(simp[intOf]<;>omega)
   ·have d1:decide (x.op < 3)=false:=by rw[dF];omega
    have d2:decide (8 < x.op)=false:=by rw[dF];omega
    obtain ⟨e1,he1⟩:∃ e1,(x.la ==-1)=e1:=⟨_,rfl⟩;obtain ⟨e2,he2⟩:∃ e2,(x.ra ==-1)=e2:=⟨_,rfl⟩;clear h;cases e1 with
    | true=>
     cases e2 with
     | true=>
      go_wp2_with (first | (at_builtin;refine wpList_append_own _ rfl (.tmp 32) (.tmp 39) 23 rfl w.heap.size 2 i _ 1 8 Tryz.underlying23 hi hz0 hz1 hz2 rfl (by omega) u3 q.length (intsV q) rfl (by exact hO.out.alloc _) ⟨wr.heap.size,0,none⟩ 1 1 [.int .i64 x.lnum] rfl rfl (by exact all_new (Blk.new wr 2 #[.int .i64 x.lnum])) (by intro u hu;simp at hu;subst hu;rfl) (by unfold maxLen;omega) (by omega) (by have:=hC.out.size;simp;omega) ?_;intro v5 w5 hown3 hg3 hat3;have HO5:Hid (w5.ownsRow w.heap.size 2 1 v5 (q++[x.lnum]).length (intsV (q++[x.lnum]))):=(by show World.ownsRow _ _ _ _ _ _ _;rw[List.length_append,intsV_append];exact hown3);have HC5:=zI (app1 hO.out hC.out _ hg3);obtain ⟨c0,c1,c2,c3,c4,c5,c6⟩:=HI.out w5 HC5.out;clear hown3 hg3 hat3) | (at_builtin;refine wpList_append_own _ rfl (.tmp 48) (.tmp 55) 23 rfl w.heap.size 2 i _ 1 8 Tryz.underlying23 hi hz0 hz1 hz2 rfl (by omega) v5 (q++[x.lnum]).length (intsV (q++[x.lnum])) rfl (by exact HO5.out.alloc _) ⟨w5.heap.size,0,none⟩ 1 1 [.int .i64 x.rnum] rfl rfl (by exact all_new (Blk.new w5 2 #[.int .i64 x.rnum])) (by intro u hu;simp at hu;subst hu;rfl) (by unfold maxLen;simp;omega) (by simp;omega) (by have:=HC5.out.size;simp;omega) ?_;intro v6 w6 hown3 hg3 hat3;have HO6:Hid (w6.ownsRow w.heap.size 2 1 v6 ((q++[x.lnum])++[x.rnum]).length (intsV ((q++[x.lnum])++[x.rnum]))):=(by show World.ownsRow _ _ _ _ _ _ _;rw[List.length_append,intsV_append];exact hown3);have HC6:=zI (app1 HO5.out HC5.out _ hg3);skip;clear hown3 hg3 hat3))
      go_roundw
      case rel=>exact ⟨j+1,_,by omega,by go_num,by simp;omega,HO6,HC6⟩
      case measure=>(simp[intOf]<;>omega)
     | false=>
      go_wp2_with (first | (at_builtin;refine wpList_append_own _ rfl (.tmp 32) (.tmp 39) 23 rfl w.heap.size 2 i _ 1 8 Tryz.underlying23 hi hz0 hz1 hz2 rfl (by omega) u3 q.length (intsV q) rfl (by exact hO.out.alloc _) ⟨wr.heap.size,0,none⟩ 1 1 [.int .i64 x.lnum] rfl rfl (by exact all_new (Blk.new wr 2 #[.int .i64 x.lnum])) (by intro u hu;simp at hu;subst hu;rfl) (by unfold maxLen;omega) (by omega) (by have:=hC.out.size;simp;omega) ?_;intro v5 w5 hown3 hg3 hat3;have HO5:Hid (w5.ownsRow w.heap.size 2 1 v5 (q++[x.lnum]).length (intsV (q++[x.lnum]))):=(by show World.ownsRow _ _ _ _ _ _ _;rw[List.length_append,intsV_append];exact hown3);have HC5:=zI (app1 hO.out hC.out _ hg3);obtain ⟨c0,c1,c2,c3,c4,c5,c6⟩:=HI.out w5 HC5.out;clear hown3 hg3 hat3))
      go_roundw
      case rel=>exact ⟨j+1,_,by omega,by go_num,by simp;omega,HO5,HC5⟩
      case measure=>(simp[intOf]<;>omega)
    | false=>
     cases e2 with
     | true=>
      go_wp2_with (first | (at_builtin;refine wpList_append_own _ rfl (.tmp 48) (.tmp 55) 23 rfl w.heap.size 2 i _ 1 8 Tryz.underlying23 hi hz0 hz1 hz2 rfl (by omega) u3 q.length (intsV q) rfl (by exact hO.out.alloc _) ⟨wr.heap.size,0,none⟩ 1 1 [.int .i64 x.rnum] rfl rfl (by exact all_new (Blk.new wr 2 #[.int .i64 x.rnum])) (by intro u hu;simp at hu;subst hu;rfl) (by unfold maxLen;omega) (by omega) (by have:=hC.out.size;simp;omega) ?_;intro v6 w6 hown3 hg3 hat3;have HO6:Hid (w6.ownsRow w.heap.size 2 1 v6 (q++[x.rnum]).length (intsV (q++[x.rnum]))):=(by show World.ownsRow _ _ _ _ _ _ _;rw[List.length_append,intsV_append];exact hown3);have HC6:=zI (app1 hO.out hC.out _ hg3);skip;clear hown3 hg3 hat3))
      go_roundw
      case rel=>exact ⟨j+1,_,by omega,by go_num,by simp;omega,HO6,HC6⟩
      case measure=>(simp[intOf]<;>omega)
     | false=>
      go_wp2_with fail
      go_roundw
      case rel=>exact ⟨j+1,q,by omega,by go_num,by omega,hO,hC⟩
      case measure=>(simp[intOf]<;>omega)
  ·obtain rfl:j=f.length:=by omega
   obtain ⟨B,b,rfl,hqc,hcm⟩:=own_slice hO.out;have HS:=zI (sorted_any wr q B b ((own_rd hO.out)) (by omega));have hsl:=sorted_le q;clear hqc hcm hO;go_wp2_with (go_at_call 26;refine HS.out.mono ?_;rintro e w5 ⟨Bo,bo,rfl,hm5,hR5,hC5⟩;have R5:=zI hR5;have C5:=zI (Ct hC.out hC5);clear hR5 hC5 HS)
   go_ret;exact ⟨_,rfl,Bo,bo,srt q,rfl,by omega,R5.out,C5.out⟩
theorem wpList_copy {P:Program} {w:World} {ops:Array Oper} {rest:List Oper} {o:Oper} {a:Act} {Q:Exit->Act->World->Prop} (hgd:o.guard=none) (s x:Operand) (t:TypeId)
  (ho:o.op=.call { callee:=.builtin .append,args:=#[s,x],argTypes:=#[t,t] })
  (base:Nat) (e:TypeId) (i:TypeInfo) (z:Value) (size bytes:Nat) (ht:P.underlying t=some (.slice e)) (hi:P.info? e=some i) (hz:i.zero=some z)
  (hsize:i.size=size) (hby:i.bytes=bytes) (hzs:z.cells.size=size) (hsz:0 < size)
  (v:Value) (n:Nat) (xs:List Value) (hs:a.eval s=v) (hown:w.ownsRow base e size v n xs) (A:Option Addr) (m c B:Nat) (news:List Value) (hx:a.eval x=.slice A m c) (hl:news.length=m * size) (hR:Rd w B A news) (h1:∀ u ∈ news,u.oneCell'=true)
  (h63:n+m<=maxLen) (hbytes:(n+m) * bytes<=140737488355328) (hbase:base<=w.heap.size)
  (h:∀ v' w',w'.ownsRow base e size v' (n+m) (xs++news)->w.grownBy w' v.ownBlock->wpList P ops Q rest (a.put o.dst v') w'):wpList P ops Q (o::rest) a w:=
 wpList_plain hgd fun _ hK=>by
  obtain ⟨v',w',hr,h2,h3⟩:=run_copy (P:=P) w base t o.type e i z size bytes ht hi hz hsize hby hzs hsz v n xs hown A m c B news hl hR h1 h63 hbytes hbase;unfold Oper.wp execOp;simp only[ho,resolve,invoke,builtin,Sem.run_bind,Sem.run_pure,Result.andThen_ok,List.map_toArray,List.map_cons,List.map_nil,hs,hx,hr];exact hK _ _ (h v' w' h2 h3)
theorem intsV_one (l:List Int):∀ u ∈ intsV l,u.oneCell'=true:=by
 intro u hu;obtain ⟨x,_,rfl⟩:=List.mem_map.1 hu;rfl
theorem grown_chg {w0 wr w':World} {v:Value} {t:TypeId} {n sz B:Nat} {xs:List Value} (ho:wr.ownsRow B t sz v n xs) (hB:w0.heap.size<=B) (hC:Chg (fun _=>False) w0 wr) (hg:wr.grownBy w' v.ownBlock):Chg (fun _=>False) w0 w':=
 Chg.trans hC (Chg.grown (S:=fun k=>v.ownBlock=some k) (Chg.refl _ wr) hg (fun k hk=>.inl hk)) (fun i hi e=>by have:=(ho.lt i e).1;omega)
theorem consts_any (w:World) (m:MC) (X:MX) (A:Option Addr) (c:Nat) (f:List Nm.Inst) (hX:XOK w m X) (hl:f.length<=1000) (hr:Rd w w.heap.size A (f.flatMap instV7)):Calls Tryz.prog 8 #[.agg (mA m),.slice A f.length c] w fun e w'=>∃ v,e=.returned v/\NuR w 100000 v w':=by
 obtain ⟨i,hi,hz0,hz1,hz2⟩:=info_3 int64_info;have hb:=Blk.new w 32 (mA m);have C0:=zI ((Chg.refl (fun _=>False) w).alloc (.cells (mA m) 32));have hX1:=hX.later C0.out;have hg:=hX.few.2.2.1;have hm:=hX.few.2.2.2.1;obtain ⟨w1,hw1⟩:∃ w1,w1=w.alloc (.cells (mA m) 32):=⟨_,rfl⟩;rw[<-hw1] at hb C0 hX1;have HM:=zI (fun (w':World) (h:Chg (fun _=>False) w1 w')=>mcells (hb.chg h (fun h=>h)));have HX:=zI (fun (w':World) (h:Chg (fun _=>False) w1 w')=>hX1.later h);obtain ⟨w2,hw2⟩:∃ w2,w2=w1.alloc (.cells #[] 2):=⟨_,rfl⟩;have C2:Hid (Chg (fun _=>False) w1 w2):=by rw[hw2];exact (Chg.refl _ w1).alloc _
 have hO2:Hid (w2.ownsRow w1.heap.size 2 1 (.slice (some ⟨w1.heap.size,0,none⟩) 0 0) ([]:List Int).length (intsV [])):=by rw[hw2];exact World.ownsRow_lit w1 #[] 0 (Nat.le_refl _) (by simp) (by simp)
 have HN:=zI (numbers_any w2 A c f hl ((hr.later C0.out (fun _ h=>h.elim)).later C2.out (fun _ h=>h.elim)));clear hb hX hX1 hr;have hs1:(w.alloc (.cells (mA m) 32)).heap.size=w1.heap.size:=by rw[hw1]
 unfold mA at hw1 hs1 |-;go_enter Tryz.func8,Tryz.ntmps8;rw[hw1] at hw2;go_wp2_with (first
  | (go_at_call 25;rw[<-hw2];refine HN.out.mono ?_;rintro e w5 ⟨v,rfl,B,b,q5,rfl,hq5,hR5,hC5⟩;have R5:=zI hR5;have C5:=zI (Ct C2.out hC5);have O5:=zI (own_chg hO2.out hC5 (fun _ _ h=>h));clear hR5 hC5 HN)
  | (at_builtin;refine wpList_copy rfl (.tmp 8) (.tmp 10) 23 rfl w1.heap.size 2 i _ 1 8 Tryz.underlying23 hi hz0 hz1 hz2 rfl (by omega) (.slice (some ⟨w1.heap.size,0,none⟩) 0 0) 0 [] rfl O5.out B q5.length b _ (intsV q5) rfl (by simp[intsV]) R5.out (intsV_one _) (by unfold maxLen;omega) (by omega) C5.out.size ?_;intro v7 w7 hown3 hg3;have HO7:Hid (w7.ownsRow w1.heap.size 2 1 v7 q5.length (intsV q5)):=(by show World.ownsRow _ _ _ _ _ _ _;rw[Nat.zero_add] at hown3;exact hown3);have HC7:=zI (grown_chg O5.out (Nat.le_refl _) C5.out hg3);clear hown3 hg3))
 go_loopw [6,5] (fun x v wr=>∃ (j:Nat) (q:List Int),j<=m.gu.length/\x=.int .i64 j/\q.length<=2000+200 * j/\Hid (wr.ownsRow w1.heap.size 2 1 v q.length (intsV q))/\Hid (Chg (fun _=>False) w1 wr)) (fun x _ _=>m.gu.length - (intOf x).toNat)
 case atStart=>exact ⟨0,_,Nat.zero_le _,rfl,by omega,HO7,HC7⟩
 case round=>
  obtain ⟨j,q,hj,rfl,hq,hO,hC⟩:=hrel;obtain ⟨e0,e1,e2,e3,e4,e5,e6,e7,e8,e9⟩:=HM.out wr hC.out;by_cases hlt:j < m.gu.length
  ·obtain ⟨x,hx⟩:∃ x,m.gu[j]?=some x:=⟨_,gG hlt⟩;obtain ⟨l,hl2⟩:∃ l,X.guI[j]?=some l:=⟨_,gG (by rw[(HX.out wr hC.out).guN];exact hlt)⟩;obtain ⟨hil,hl3,hR3⟩:=(HX.out wr hC.out).gu j x l hx hl2;obtain ⟨b1,o1,hA1,_,hc⟩:=row_at (f:=guC) (C:=3) (fun _=>rfl) (by omega) (HX.out wr hC.out).mo.gu hx;have c2:=hc 2 _ rfl;rw[hil] at c2;have e':=e6.trans (show _=some (Value.slice (some ⟨b1,o1,none⟩) m.gu.length _) by rw[hA1]);have HN:=zI (numbers_any wr x.ia x.ic l (by omega) hR3);clear e6 hc hx hl2 hA1 hR3 hil;go_wp2_with (first
    | (go_at_call 25;refine HN.out.mono ?_;rintro e w5 ⟨v,rfl,B,b,q5,rfl,hq5,hR5,hC5⟩;have R5:=zI hR5;have C5:=zI (Ct hC.out hC5);have O5:=zI (own_chg hO.out hC5 (fun _ _ h=>h));clear hR5 hC5 HN)
    | (at_builtin;refine wpList_copy rfl (.tmp 19) (.tmp 26) 23 rfl w1.heap.size 2 i _ 1 8 Tryz.underlying23 hi hz0 hz1 hz2 rfl (by omega) u5 q.length (intsV q) rfl O5.out B q5.length b _ (intsV q5) rfl (by simp[intsV]) R5.out (intsV_one _) (by unfold maxLen;omega) (by omega) C5.out.size ?_;intro v7 w7 hown3 hg3;have HO7:Hid (w7.ownsRow w1.heap.size 2 1 v7 (q++q5).length (intsV (q++q5))):=(by show World.ownsRow _ _ _ _ _ _ _;rw[List.length_append,intsV_append];exact hown3);have HC7:=zI (grown_chg O5.out (Nat.le_refl _) C5.out hg3);clear hown3 hg3))
   go_roundw
   case rel=>exact ⟨j+1,_,by omega,by go_num,by rw[List.length_append];omega,HO7,HC7⟩
   case measure=>(simp[intOf]<;>omega)
  ·obtain rfl:j=m.gu.length:=by omega
   go_wp2_with fail
   clear e0 e1 e2 e3 e4 e5 e6 e7 e8 e9;go_loopw [7,5] (fun x v wr=>∃ (j:Nat) (q:List Int),j<=m.mi.length/\x=.int .i64 j/\q.length<=22000+200 * j/\Hid (wr.ownsRow w1.heap.size 2 1 v q.length (intsV q))/\Hid (Chg (fun _=>False) w1 wr)) (fun x _ _=>m.mi.length - (intOf x).toNat)
   case atStart=>exact ⟨0,_,Nat.zero_le _,rfl,by omega,hO,hC⟩
   case round=>
    obtain ⟨j,q,hj,rfl,hq,hO,hC⟩:=hrel;obtain ⟨e0,e1,e2,e3,e4,e5,e6,e7,e8,e9⟩:=HM.out wr hC.out;by_cases hlt:j < m.mi.length
    ·obtain ⟨x,hx⟩:∃ x,m.mi[j]?=some x:=⟨_,gG hlt⟩;obtain ⟨l,hl2⟩:∃ l,X.miI[j]?=some l:=⟨_,gG (by rw[(HX.out wr hC.out).miN];exact hlt)⟩;obtain ⟨hil,hl3,hR3⟩:=(HX.out wr hC.out).mi j x l hx hl2;obtain ⟨b1,o1,hA1,_,hc⟩:=row_at (f:=miC) (C:=5) (fun _=>rfl) (by omega) (HX.out wr hC.out).mo.mi hx;have c2:=hc 3 _ rfl;rw[hil] at c2;have e':=e7.trans (show _=some (Value.slice (some ⟨b1,o1,none⟩) m.mi.length _) by rw[hA1]);have HN:=zI (numbers_any wr x.ia x.ic l (by omega) hR3);clear e7 hc hx hl2 hA1 hR3 hil;go_wp2_with (first
      | (go_at_call 25;refine HN.out.mono ?_;rintro e w5 ⟨v,rfl,B,b,q5,rfl,hq5,hR5,hC5⟩;have R5:=zI hR5;have C5:=zI (Ct hC.out hC5);have O5:=zI (own_chg hO.out hC5 (fun _ _ h=>h));clear hR5 hC5 HN)
      | (at_builtin;refine wpList_copy rfl (.tmp 35) (.tmp 42) 23 rfl w1.heap.size 2 i _ 1 8 Tryz.underlying23 hi hz0 hz1 hz2 rfl (by omega) u5 q.length (intsV q) rfl O5.out B q5.length b _ (intsV q5) rfl (by simp[intsV]) R5.out (intsV_one _) (by unfold maxLen;omega) (by omega) C5.out.size ?_;intro v7 w7 hown3 hg3;have HO7:Hid (w7.ownsRow w1.heap.size 2 1 v7 (q++q5).length (intsV (q++q5))):=(by show World.ownsRow _ _ _ _ _ _ _;rw[List.length_append,intsV_append];exact hown3);have HC7:=zI (grown_chg O5.out (Nat.le_refl _) C5.out hg3);clear hown3 hg3))
     go_roundw
     case rel=>exact ⟨j+1,_,by omega,by go_num,by rw[List.length_append];omega,HO7,HC7⟩
     case measure=>(simp[intOf]<;>omega)
    ·obtain rfl:j=m.mi.length:=by omega
     obtain ⟨B,b,rfl,hqc,hcm⟩:=own_slice hO.out;have HS:=zI (sorted_any wr q B b ((own_rd hO.out)) (by omega));have hsl:=sorted_le q;have Cw:=zI (Ct C0.out hC.out);clear hqc hcm hO;go_wp2_with (go_at_call 26;refine HS.out.mono ?_;rintro e w5 ⟨Bo,bo,rfl,hm5,hR5,hC5⟩;have R5:=zI hR5;have C5:=zI (Ct Cw.out hC5);clear hR5 hC5 HS)
     go_ret;exact ⟨_,rfl,Bo,bo,srt q,rfl,by omega,R5.out,C5.out⟩
theorem sets13_any (w:World) (m:MC) (A:Option Addr) (c:Nat) (l:List Int) (hl:l.length<=4000000) (hR:Rd w w.heap.size A (intsV l)):Calls Tryz.prog 44 #[.agg (mA m),.slice A l.length c] w fun e w'=>(∃ b,e=.returned (.bool b))/\Chg (fun _=>False) w w':=by
 have hb:=Blk.new w 32 (mA m);have C0:=zI ((Chg.refl (fun _=>False) w).alloc (.cells (mA m) 32));obtain ⟨w1,hw1⟩:∃ w1,w1=w.alloc (.cells (mA m) 32):=⟨_,rfl⟩;rw[<-hw1] at hb C0;have HM:=zI (fun (w':World) (h:Chg (fun _=>False) w1 w')=>mcells (hb.chg h (fun h=>h)));have HR:=zI (fun (w':World) (h:Chg (fun _=>False) w1 w')=>(hR.later C0.out (fun _ h=>h.elim)).later h (fun _ h=>h.elim));clear hb hR;unfold mA at hw1 |-;go_enter Tryz.func44,Tryz.ntmps44;go_wp2_with fail
 rw[<-hw1];clear hw1;go_loopw [5,6] (fun x _ wr=>∃ j:Nat,j<=l.length/\x=.int .i64 j/\Hid (Chg (fun _=>False) w1 wr)) (fun x _ _=>l.length - (intOf x).toNat)
 case atStart=>exact ⟨0,Nat.zero_le _,rfl,Chg.refl _ _⟩
 case round=>
  obtain ⟨j,hj,rfl,Cr⟩:=hrel
  rename World=>wo
  by_cases hlt:j < l.length
  ·obtain ⟨x,hx⟩:∃ x,l[j]?=some x:=⟨_,gG hlt⟩;obtain ⟨b0,o0,rfl,_,c0⟩:=int_at (HR.out wo Cr.out) hx;have K0:=fun n:KW wo=>kept_cell c0 n
   have F0:=fun n:KW wo=>(HM.out n.w (Ct Cr.out n.h)).1
   have HI:=zI (fun n:KW wo=>kept_same (in13_any n.w x m.nA));obtain ⟨b,hbb⟩:∃ b,b=decide (0<=x/\x < (m.nA:Int)):=⟨_,rfl⟩;rw[<-hbb] at HI;clear hx hbb c0;cases b with
   | false=>
    go_wp2_with fail
    refine wp_region_kept wo (Chg.refl _ _) (by kernel_rfl) (by kernel_rfl) ?_;repeat (go_big_quiet_step (with_reducible exact HI.out _))
    refine wpQuiet_nil ?_;rintro w4 ⟨n,rfl⟩;have C4:=zI (Ct Cr.out n.h);obtain ⟨w5,hw5⟩:∃ w5,w5=n.w:=⟨_,rfl⟩;rw[<-hw5] at C4 |-;clear hw5 F0 K0 HI;go_wp2
    go_ret;exact ⟨⟨_,rfl⟩,Ct C0.out C4.out⟩
   | true=>
    go_wp2_with fail
    refine wp_region_kept wo (Chg.refl _ _) (by kernel_rfl) (by kernel_rfl) ?_;repeat (go_big_quiet_step (with_reducible exact HI.out _))
    refine wpQuiet_nil ?_;rintro w4 ⟨n,rfl⟩;have C4:=zI (Ct Cr.out n.h);obtain ⟨w5,hw5⟩:∃ w5,w5=n.w:=⟨_,rfl⟩;rw[<-hw5] at C4 |-;clear hw5 F0 K0 HI;go_wp2_with fail
    go_loopw [6] (fun x wr=>∃ i:Nat,i<=j/\x=.int .i64 i/\Hid (Chg (fun _=>False) w1 wr)) (fun x _=>j - (intOf x).toNat)
    case atStart=>exact ⟨0,Nat.zero_le _,rfl,C4⟩
    case round=>
     obtain ⟨i,hi,rfl,C6⟩:=hrel;by_cases hij:i < j
     ·obtain ⟨x,hx⟩:∃ x,l[j]?=some x:=⟨_,gG hlt⟩;obtain ⟨y,hy⟩:∃ y,l[i]?=some y:=⟨_,gG (by omega)⟩;obtain ⟨_,_,e1,_,c0⟩:=int_at (HR.out wr C6.out) hx;obtain ⟨_,_,e2,_,c1⟩:=int_at (HR.out wr C6.out) hy;injection e1 with e1;injection e1 with e11 e12 _;injection e2 with e2;injection e2 with e21 e22 _;subst e11;subst e12;subst e21;subst e22;obtain ⟨eb,heb⟩:∃ eb,(y ==x)=eb:=⟨_,rfl⟩;clear hx hy;have K0:=fun n:KW wr=>kept_cell c0 n
      have K1:=fun n:KW wr=>kept_cell c1 n
      clear c0 c1;go_wp2_with fail
      refine wp_region_kept wr (Chg.refl _ _) (by kernel_rfl) (by kernel_rfl) ?_;repeat (go_big_quiet_step (fail))
      refine wpQuiet_nil ?_;rintro w4 ⟨n,rfl⟩;have C7:=zI (Ct C6.out n.h);obtain ⟨w5,hw5⟩:∃ w5,w5=n.w:=⟨_,rfl⟩;rw[<-hw5] at C7 |-;clear hw5 K0 K1;cases eb with
      | true=>
       go_wp2
       go_ret;exact ⟨⟨_,rfl⟩,Ct C0.out C7.out⟩
      | false=>
       go_wp2_with fail
       go_roundw
       case rel=>exact ⟨i+1,by omega,by go_num,C7⟩
       case measure=>(simp[intOf]<;>omega)
     ·obtain rfl:j=i:=by omega
      go_wp2_with fail
      go_roundw
      case rel=>exact ⟨j+1,by omega,by go_num,C6⟩
      case measure=>(simp[intOf]<;>omega)
  ·obtain rfl:j=l.length:=by omega
   go_wp2
   go_ret;exact ⟨⟨_,rfl⟩,Ct C0.out Cr.out⟩
def mostN (m:MC) (op:Int):Nat:=if op=9 then m.nS else if op=10 then m.mi.length else m.ev.length
def hasI (m:MC) (x:Nm.Inst):Bool:=
 if 3<=x.op/\x.op<=8 then decide (-1<=x.la) && (decide (x.la < (m.nA:Int)) && (decide (-1<=x.ra) && decide (x.ra < (m.nA:Int))))
 else if x.op < 9\/12 < x.op then true
 else decide (0<=x.n) && (decide (x.n < (mostN m x.op:Int)) && (decide (x.op ≠ 12) || (decide (0<=x.user) && decide (x.user < (m.nU:Int)))))
theorem has11_any (w:World) (m:MC) (x:Nm.Inst):Calls Tryz.prog 74 #[.agg (mA m),.agg (iA x)] w fun e w'=>e=.returned (.bool (hasI m x))/\Chg (fun _=>False) w w':=by
 obtain ⟨h1,h2⟩:=cells2 w 32 83 (mA m) (iA x);have hC:=zI (chg2 w (.cells (mA m) 32) (.cells (iA x) 83));obtain ⟨e0,-,e2,-,e4,e5,-,e7,-,-⟩:=mcells h1;obtain ⟨g0,g1,-,g3,-,g5,g6⟩:=icells h2;clear h1 h2;unfold mA iA at e0 e2 e4 e5 e7 g0 g1 g3 g5 g6 hC |-;by_cases hc:3<=x.op/\x.op<=8
 ·obtain ⟨hc1,hc2⟩:=hc;have d1:decide (3<=x.op)=true:=by simpa using hc1
  have d2:decide (x.op<=8)=true:=by simpa using hc2
  obtain ⟨b1,q1⟩:∃ b,decide (-1<=x.la)=b:=⟨_,rfl⟩;obtain ⟨b2,q2⟩:∃ b,decide (x.la < (m.nA:Int))=b:=⟨_,rfl⟩;obtain ⟨b3,q3⟩:∃ b,decide (-1<=x.ra)=b:=⟨_,rfl⟩;obtain ⟨b4,q4⟩:∃ b,decide (x.ra < (m.nA:Int))=b:=⟨_,rfl⟩;have hv:Hid (hasI m x=(b1 && (b2 && (b3 && b4)))):=by show _=_;unfold hasI;rw[if_pos ⟨hc1,hc2⟩,q1,q2,q3,q4]
  clear hc1 hc2;cases b1<;>cases b2<;>cases b3<;>cases b4<;>
  (go_enter Tryz.func74,Tryz.ntmps74
   go_wp2
   go_ret;exact ⟨by rw[hv.out];rfl,hC.out⟩)
 ·by_cases hn:x.op < 9\/12 < x.op
  ·have hv:Hid (hasI m x=true):=by show _=_;unfold hasI;rw[if_neg hc,if_pos hn]
   by_cases h9:x.op < 9
   ·have d3:decide (x.op < 9)=true:=by simpa using h9
    by_cases h3:3<=x.op
    ·have d1:decide (3<=x.op)=true:=by simpa using h3
     have d2:decide (x.op<=8)=false:=by rw[dF];omega
     clear hc hn h9 h3;go_enter Tryz.func74,Tryz.ntmps74;go_wp2
     go_ret;exact ⟨by rw[hv.out];rfl,hC.out⟩
    ·have d1:decide (3<=x.op)=false:=by simpa using h3
     clear hc hn h9 h3;go_enter Tryz.func74,Tryz.ntmps74;go_wp2
     go_ret;exact ⟨by rw[hv.out];rfl,hC.out⟩
   ·have d3:decide (x.op < 9)=false:=by simpa using h9
    have d1:decide (3<=x.op)=true:=by rw[dT];omega
    have d2:decide (x.op<=8)=false:=by rw[dF];omega
    have d4:decide (12 < x.op)=true:=by rw[dT];omega
    clear hc hn h9;go_enter Tryz.func74,Tryz.ntmps74;go_wp2
    go_ret;exact ⟨by rw[hv.out];rfl,hC.out⟩
  ·have hop:x.op=9\/x.op=10\/x.op=11\/x.op=12:=by omega
   obtain ⟨w1,hw1⟩:∃ w1,w1=(w.alloc (.cells #[.slice m.aA m.nA m.cA,.slice m.aI m.nI m.cI,.slice m.aU m.nU m.cU,.slice m.aR m.ro.length m.cR,.slice m.aS m.nS m.cS,.slice m.aE m.ev.length m.cE,.slice m.aG m.gu.length m.cG,.slice m.aM m.mi.length m.cM,.slice m.aD m.so.length m.cD,.slice m.aO m.nO m.cO] 32)).alloc (.cells #[.int .i64 x.op,.int .i64 x.la,.int .i64 x.lnum,.int .i64 x.ra,.int .i64 x.rnum,.int .i64 x.n,.int .i64 x.user] 83):=⟨_,rfl⟩;have hs1:w1.heap.size=w.heap.size+2:=by rw[hw1];simp
   rw[<-hw1] at e0 e2 e4 e5 e7 g0 g1 g3 g5 g6 hC;have hbl:=Blk.new w1 3 #[.int .i64 m.nS,.int .i64 m.mi.length,.int .i64 m.ev.length,.int .i64 m.ev.length];have k0:(w1.alloc (.cells #[.int .i64 m.nS,.int .i64 m.mi.length,.int .i64 m.ev.length,.int .i64 m.ev.length] 3)).cell? ⟨w1.heap.size,0,none⟩=some (.int .i64 m.nS):=by rw[hbl.cell];rfl
   have k1:(w1.alloc (.cells #[.int .i64 m.nS,.int .i64 m.mi.length,.int .i64 m.ev.length,.int .i64 m.ev.length] 3)).cell? ⟨w1.heap.size,0+1,none⟩=some (.int .i64 m.mi.length):=by rw[hbl.cell];rfl
   have k2:(w1.alloc (.cells #[.int .i64 m.nS,.int .i64 m.mi.length,.int .i64 m.ev.length,.int .i64 m.ev.length] 3)).cell? ⟨w1.heap.size,0+2,none⟩=some (.int .i64 m.ev.length):=by rw[hbl.cell];rfl
   have k3:(w1.alloc (.cells #[.int .i64 m.nS,.int .i64 m.mi.length,.int .i64 m.ev.length,.int .i64 m.ev.length] 3)).cell? ⟨w1.heap.size,0+3,none⟩=some (.int .i64 m.ev.length):=by rw[hbl.cell];rfl
   replace hC:Hid (Chg (fun _=>False) w (w1.alloc (.cells #[.int .i64 m.nS,.int .i64 m.mi.length,.int .i64 m.ev.length,.int .i64 m.ev.length] 3))):=hC.out.alloc _;replace e2:=kal (o:=.cells #[.int .i64 m.nS,.int .i64 m.mi.length,.int .i64 m.ev.length,.int .i64 m.ev.length] 3) e2;have g0':=kal (o:=.cells #[.int .i64 m.nS,.int .i64 m.mi.length,.int .i64 m.ev.length,.int .i64 m.ev.length] 3) g0;replace g5:=kal (o:=.cells #[.int .i64 m.nS,.int .i64 m.mi.length,.int .i64 m.ev.length,.int .i64 m.ev.length] 3) g5;replace g6:=kal (o:=.cells #[.int .i64 m.nS,.int .i64 m.mi.length,.int .i64 m.ev.length,.int .i64 m.ev.length] 3) g6;obtain ⟨w2,hw2⟩:∃ w2,w2=w1.alloc (.cells #[.int .i64 m.nS,.int .i64 m.mi.length,.int .i64 m.ev.length,.int .i64 m.ev.length] 3):=⟨_,rfl⟩;rw[<-hw2] at k0 k1 k2 k3 hC e2 g0' g5 g6;clear hbl g1 g3;rcases hop with h | h | h | h
   ·have d1:decide ((3:Int)<=9)=true:=rfl;have d2:decide ((9:Int)<=8)=false:=rfl;obtain ⟨b1,q1⟩:∃ b,decide (0<=x.n)=b:=⟨_,rfl⟩;obtain ⟨b2,q2⟩:∃ b,decide (x.n < (m.nS:Int))=b:=⟨_,rfl⟩;have hv:Hid (hasI m x=(b1 && b2)):=by show _=_;unfold hasI mostN;rw[if_neg hc,if_neg hn,h,q1];simp[q2]
    rw[h] at g0 g0' hw1 |-;clear h hc hn;cases b1<;>cases b2<;>
    (go_enter Tryz.func74,Tryz.ntmps74
     go_wp2_with fail
     rw[<-hw1,<-hs1,<-hw2];refine wp_region_quiet_lit (by kernel_rfl) (by kernel_rfl) ?_;repeat (go_big_quiet_step (fail))
     refine wpQuiet_nil ?_;intro _ hw';obtain ⟨nq,hw'⟩:=hw';subst hw';go_wp2
     go_ret;exact ⟨by rw[hv.out];rfl,hC.out.drewN nq⟩)
   ·have d1:decide ((3:Int)<=10)=true:=rfl;have d2:decide ((10:Int)<=8)=false:=rfl;obtain ⟨b1,q1⟩:∃ b,decide (0<=x.n)=b:=⟨_,rfl⟩;obtain ⟨b2,q2⟩:∃ b,decide (x.n < (m.mi.length:Int))=b:=⟨_,rfl⟩;have hv:Hid (hasI m x=(b1 && b2)):=by show _=_;unfold hasI mostN;rw[if_neg hc,if_neg hn,h,q1];simp[q2]
    rw[h] at g0 g0' hw1 |-;clear h hc hn;cases b1<;>cases b2<;>
    (go_enter Tryz.func74,Tryz.ntmps74
     go_wp2_with fail
     rw[<-hw1,<-hs1,<-hw2];refine wp_region_quiet_lit (by kernel_rfl) (by kernel_rfl) ?_;repeat (go_big_quiet_step (fail))
     refine wpQuiet_nil ?_;intro _ hw';obtain ⟨nq,hw'⟩:=hw';subst hw';go_wp2
     go_ret;exact ⟨by rw[hv.out];rfl,hC.out.drewN nq⟩)
   ·have d1:decide ((3:Int)<=11)=true:=rfl;have d2:decide ((11:Int)<=8)=false:=rfl;obtain ⟨b1,q1⟩:∃ b,decide (0<=x.n)=b:=⟨_,rfl⟩;obtain ⟨b2,q2⟩:∃ b,decide (x.n < (m.ev.length:Int))=b:=⟨_,rfl⟩;have hv:Hid (hasI m x=(b1 && b2)):=by show _=_;unfold hasI mostN;rw[if_neg hc,if_neg hn,h,q1];simp[q2]
    rw[h] at g0 g0' hw1 |-;clear h hc hn;cases b1<;>cases b2<;>
    (go_enter Tryz.func74,Tryz.ntmps74
     go_wp2_with fail
     rw[<-hw1,<-hs1,<-hw2];refine wp_region_quiet_lit (by kernel_rfl) (by kernel_rfl) ?_;repeat (go_big_quiet_step (fail))
     refine wpQuiet_nil ?_;intro _ hw';obtain ⟨nq,hw'⟩:=hw';subst hw';go_wp2
     go_ret;exact ⟨by rw[hv.out];rfl,hC.out.drewN nq⟩)
   ·have d1:decide ((3:Int)<=12)=true:=rfl;have d2:decide ((12:Int)<=8)=false:=rfl;obtain ⟨b1,q1⟩:∃ b,decide (0<=x.n)=b:=⟨_,rfl⟩;obtain ⟨b2,q2⟩:∃ b,decide (x.n < (m.ev.length:Int))=b:=⟨_,rfl⟩;obtain ⟨b3,q3⟩:∃ b,decide (0<=x.user)=b:=⟨_,rfl⟩;obtain ⟨b4,q4⟩:∃ b,decide (x.user < (m.nU:Int))=b:=⟨_,rfl⟩;have hv:Hid (hasI m x=(b1 && (b2 && (b3 && b4)))):=by show _=_;unfold hasI mostN;rw[if_neg hc,if_neg hn,h,q1];simp[q2,q3,q4]
    rw[h] at g0 g0' hw1 |-;clear h hc hn;cases b1<;>cases b2<;>cases b3<;>cases b4<;>
    (go_enter Tryz.func74,Tryz.ntmps74
     go_wp2_with fail
     rw[<-hw1,<-hs1,<-hw2];refine wp_region_quiet_lit (by kernel_rfl) (by kernel_rfl) ?_;repeat (go_big_quiet_step (fail))
     refine wpQuiet_nil ?_;intro _ hw';obtain ⟨nq,hw'⟩:=hw';subst hw';go_wp2
     go_ret;exact ⟨by rw[hv.out];rfl,hC.out.drewN nq⟩)
end
end Go.Proofs.YthohgagkjnbkbaaGreat
