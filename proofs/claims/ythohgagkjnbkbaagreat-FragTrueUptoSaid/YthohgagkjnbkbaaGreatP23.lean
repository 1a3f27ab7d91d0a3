/- FragTrue, part 23: TrBuilt TrFind TrPart FrPa. Each theorem says what a function does, or a plain fact, under its own premises alone. -/
import Derived.Test.YthohgagkjnbkbaaGreatP22
set_option maxRecDepth 100000
set_option maxHeartbeats 16000000
namespace Go.Proofs.YthohgagkjnbkbaaGreat
section
open Go.RowKit
theorem chk_form {f:Nat->Int} {n:Nat} (h0:n ≠ 0) (h1:¬ 64 < n) {t:Tr.T} (h:Tr.run f n=some [t]):Tr.check f n=0:=by
 rw[Tr.check_zero];exact ⟨by omega,by omega,(Tr.form_iff n).2 ⟨t,h⟩⟩
theorem chk_not {f:Nat->Int} {n:Nat} (h0:n ≠ 0) (h1:¬ 64 < n) (h:∀ t,Tr.run f n ≠ some [t]):Tr.check f n=17:=by
 unfold Tr.check;rw[if_neg h0,if_neg h1,if_neg];intro hb;obtain ⟨t,ht⟩:=(Tr.form_iff n).1 hb;exact h t ht
theorem run_none {f:Nat->Int} {j:Nat} (h:Tr.run f j=none):∀ n,j<=n->Tr.run f n=none
 | 0,hn=>by
  obtain rfl:j=0:=by omega
  exact h
 | n+1,hn=>by
  rcases Nat.lt_or_ge n j with hlt | hge
  ·obtain rfl:j=n+1:=by omega
   exact h
  ·rw[Tr.run_succ,run_none h n hge]
theorem push_le {row r:List Tr.T} {op:Int} {a:Nat} (h:Tr.push row op a=some r):r.length<=row.length+1:=by
 unfold Tr.push at h;split at h
 ·injection h with h;subst h;simp
 ·split at h
  ·split at h
   ·injection h with h;subst h;simp
   ·cases h
  ·split at h
   ·split at h
    ·injection h with h;subst h;simp
    ·cases h
   ·cases h
theorem run_le {f:Nat->Int}:∀ {n:Nat} {row:List Tr.T},Tr.run f n=some row->row.length<=n
 | 0,row,h=>by injection h with h;subst h;simp
 | n+1,row,h=>by
  rw[Tr.run_succ] at h;split at h
  ·cases h
  ·rename_i row' hr;have:=run_le hr;have:=push_le h;omega
def BuiltR (f:List Nm.Item) (e:Ending):Prop:=
 (∃ t,Tr.run (sg f) f.length=some [t]/\Tr.check (sg f) f.length=0/\e=.returned (.tuple #[valT t,.int .i64 0]))\/
 (Tr.check (sg f) f.length ≠ 0/\e=.returned (.tuple #[.nilIface,.int .i64 (Tr.check (sg f) f.length)]))
theorem built_any (w:World) (A:Option Addr) (c:Nat) (f:List Nm.Item) (hl:f.length<=maxLen) (hr:Rd w w.heap.size A (cellsI f)):
  Calls Tryz.prog 36 #[.slice A f.length c] w fun e w'=>BuiltR f e/\Chg (fun _=>False) w w':=by
 have HR:=zI hr;clear hr;unfold maxLen at hl;by_cases h0:f.length=0
 ·have hc:Hid (Tr.check (sg f) f.length=12):=by show _=_;unfold Tr.check;rw[if_pos h0]
  go_enter Tryz.func36,Tryz.ntmps36;go_wp2
  go_ret2
  exact ⟨.inr ⟨by rw[hc.out];decide,by rw[hc.out];rfl⟩,Chg.refl _ _⟩
 have hz:((f.length:Int) ==0)=false:=by rw[bF];omega
 by_cases h1:64 < f.length
 ·have hc:Hid (Tr.check (sg f) f.length=3):=by show _=_;unfold Tr.check;rw[if_neg h0,if_pos h1]
  have hd:decide ((64:Int) < (f.length:Int))=true:=by rw[dT];omega
  go_enter Tryz.func36,Tryz.ntmps36;go_wp2
  go_ret2
  exact ⟨.inr ⟨by rw[hc.out];decide,by rw[hc.out];rfl⟩,Chg.refl _ _⟩
 have hd:decide ((64:Int) < (f.length:Int))=false:=by rw[dF];omega
 replace h0:=zI h0;go_enter Tryz.func36,Tryz.ntmps36;go_wp2
 go_loopw [19,4] (fun i v wr=>∃ (j:Nat) (row:List Tr.T),j<=f.length/\i=.int .i64 j/\Hid (Tr.run (sg f) j=some row)/\Hid (wr.ownsRow w.heap.size 102 1 v row.length (rowV row))/\Hid (Chg (fun _=>False) w wr)) (fun i _ _=>f.length - (intOf i).toNat)
 case atStart=>
  exact ⟨0,[],Nat.zero_le _,rfl,rfl,World.ownsRow_nil _ _ _ _,Chg.refl _ _⟩
 case round=>
  obtain ⟨j,row,hj,rfl,hrun,hO,hC⟩:=hrel;by_cases hlt:j < f.length
  ·obtain ⟨x,hx⟩:∃ x,f[j]?=some x:=⟨_,gG hlt⟩;obtain ⟨b1,o1,hA1,hb1,c0,c1,c2,c3,c4,c5,c6,c7,c8⟩:=item_at (HR.out.chg hC.out (Nat.le_refl _) (fun _ h=>h.elim)) hx;have hop:=zI (sg_at hx);subst hA1;replace hx:=zI hx;have hrl:=run_le hrun.out;have hrs:=zI (Tr.run_succ (f:=sg f) j);rw[hrun.out,hop.out] at hrs;have hsz:=hC.out.size;rcases hp:Tr.push row x.op j with _ | r
   ·have hck:Hid (Tr.check (sg f) f.length=17):=by
     refine chk_not h0.out h1 (fun t ht=>?_);have h2:=hrs.out;simp only[hp] at h2;rw[run_none h2 f.length (by omega)] at ht;cases ht
    replace hp:=zI hp;go_wp2_with (go_at_call 72;refine (push_any _ w.heap.size _ row x.op j (by exact hO.out.alloc _) (by simp;omega) (by omega)).mono ?_;rw[hp.out];rintro e w' ⟨rfl,hh⟩;have H2:=zI hh;clear hh)
    go_ret2
    exact ⟨.inr ⟨by rw[hck.out];decide,by rw[hck.out];rfl⟩,Ct (hC.out.alloc _) H2.out⟩
   ·have hrr:Hid (Tr.run (sg f) (j+1)=some r):=by
     have h2:=hrs.out;simp only[hp] at h2;exact h2
    replace hp:=zI hp;go_wp2_with (go_at_call 72;refine (push_any _ w.heap.size _ row x.op j (by exact hO.out.alloc _) (by simp;omega) (by omega)).mono ?_;rw[hp.out];rintro e w' ⟨v',rfl,hown,hh⟩;have HO2:=zI hown;have H2:=zI hh;clear hh hown)
    go_roundw
    case rel=>exact ⟨j+1,r,by omega,by go_num,hrr,HO2,zI (Chg.trans (hC.out.alloc _) H2.out (fun i hi h=>by have:=(hO.out.lt i h).1;omega))⟩
    case measure=>(simp[intOf]<;>omega)
  ·obtain rfl:j=f.length:=by omega
   clear hj hlt;have hrl:=run_le hrun.out;by_cases hl1:row.length=1
   ·obtain ⟨t,rfl⟩:∃ t,row=[t]:=by
     match row,hl1 with
     | [t],_=>exact ⟨t,rfl⟩
    obtain ⟨g0,c0,hv,hglt,_,_,hcell⟩:=own_form hO.out (by simp);have hx:wr.cell? ⟨g0,0,none⟩=some (.iface (typT t) (.agg (cellT t))):=by
     rw[<-valT_eq,hcell 0 (by simp)];rfl
    subst hv;clear hcell hl1;go_wp2
    go_ret2
    exact ⟨.inl ⟨t,hrun.out,chk_form h0.out h1 hrun.out,by rw[valT_eq];rfl⟩,hC.out⟩
   ·obtain ⟨A2,c2,rfl,_,_⟩:=own_slice hO.out;have hlz:((row.length:Int) ==1)=false:=by rw[bF];omega
    have hlz2:((row.length:Int) !=1)=true:=by rw[bne,hlz];rfl
    have hck:Hid (Tr.check (sg f) f.length=17):=by
     refine chk_not h0.out h1 (fun t ht=>?_);rw[hrun.out] at ht;injection ht with ht;subst ht;exact hl1 rfl
    go_wp2
    go_ret2
    exact ⟨.inr ⟨by rw[hck.out];decide,by rw[hck.out];rfl⟩,hC.out⟩
theorem as_leaf1 (c:Value) (w:World):(Instr.typeAssert (.iface 190 (.agg #[c])) 102 161 true).run Tryz.prog w=.ok (.tuple #[.agg #[.int .i64 0,.nilIface],.bool false]) w:=by kernel_rfl
theorem as_leaf2 (c:Value) (w:World):(Instr.typeAssert (.iface 190 (.agg #[c])) 102 164 true).run Tryz.prog w=.ok (.tuple #[.agg #[.int .i64 0,.nilIface,.nilIface],.bool false]) w:=by kernel_rfl
theorem as_one1 (c d:Value) (w:World):(Instr.typeAssert (.iface 161 (.agg #[c,d])) 102 161 true).run Tryz.prog w=.ok (.tuple #[.agg #[c,d],.bool true]) w:=by kernel_rfl
theorem as_two1 (c d e:Value) (w:World):(Instr.typeAssert (.iface 164 (.agg #[c,d,e])) 102 161 true).run Tryz.prog w=.ok (.tuple #[.agg #[.int .i64 0,.nilIface],.bool false]) w:=by kernel_rfl
theorem as_two2 (c d e:Value) (w:World):(Instr.typeAssert (.iface 164 (.agg #[c,d,e])) 102 164 true).run Tryz.prog w=.ok (.tuple #[.agg #[c,d,e],.bool true]) w:=by kernel_rfl
theorem method_end_leaf (a:Nat) (w:World):(method 332 190 (.agg #[.int .i64 a]) "warder/tree.end").run Tryz.prog w=.ok (153,.agg #[.int .i64 a]) w:=method_end (.leaf a) w
theorem two_cells {S:Nat->Prop} {w1 w2:World} {o:Obj} {cs:Array Value} {t:TypeId} (h:Chg S ((w1.alloc o).alloc (.cells cs t)) w2) (hS:∀ k,¬ S k) (i:Nat) {u:Value} (hu:cs[i]?=some u):w2.cell? ⟨w1.heap.size+1,i,none⟩=some u:=by
 have e:(w1.alloc o).heap.size=w1.heap.size+1:=by simp
 rw[h.cell (by simp) (hS _),<-e,(Blk.new (w1.alloc o) t cs).cell];exact hu
theorem cell_one (a:Nat) (x:Tr.T):cellT (.one a x)=#[.int .i64 a,.iface (typT x) (.agg (cellT x))]:=by rw[<-valT_eq];rfl
theorem cell_two (a:Nat) (x y:Tr.T):cellT (.two a x y)=#[.int .i64 a,.iface (typT x) (.agg (cellT x)),.iface (typT y) (.agg (cellT y))]:=by rw[<-valT_eq,<-valT_eq];rfl
theorem method_end_one (a:Nat) (x:Tr.T) (w:World):(method 332 161 (.agg #[.int .i64 a,.iface (typT x) (.agg (cellT x))]) "warder/tree.end").run Tryz.prog w=.ok (149,.agg #[.int .i64 a,.iface (typT x) (.agg (cellT x))]) w:=by
 have h:=method_end (.one a x) w;rw[cell_one] at h;exact h
theorem method_end_two (a:Nat) (x y:Tr.T) (w:World):(method 332 164 (.agg #[.int .i64 a,.iface (typT x) (.agg (cellT x)),.iface (typT y) (.agg (cellT y))]) "warder/tree.end").run Tryz.prog w=.ok (151,.agg #[.int .i64 a,.iface (typT x) (.agg (cellT x)),.iface (typT y) (.agg (cellT y))]) w:=by
 have h:=method_end (.two a x y) w;rw[cell_two] at h;exact h
def FindR (s:Option Tr.T) (e:Ending):Prop:=
 match s with
 | some t=>e=.returned (.tuple #[valT t,.bool true])
 | none=>e=.returned (.tuple #[.nilIface,.bool false])
theorem find_leaf (a:Nat) (p:Int) (w:World):Calls Tryz.prog 104 #[.iface 190 (.agg #[.int .i64 a]),.int .i64 p] w fun e w'=>FindR ((Tr.T.leaf a).find p) e/\Chg (fun _=>False) w w':=by
 have q1:=as_leaf1;have q2:=as_leaf2;have hm:=method_end_leaf a;by_cases hp:(a:Int)=p
 ·have hf:Hid ((Tr.T.leaf a).find p=some (.leaf a)):=by show _=_;simp only[Tr.T.find];rw[if_pos hp]
  rw[hf.out];have hq:((a:Int) ==p)=true:=by rw[beq_iff_eq];exact hp
  clear hp hf;go_enter Tryz.func104,Tryz.ntmps104;go_wp2_with (go_at_call 153;refine (end_leaf a _).mono ?_;rintro e w' ⟨rfl,h⟩;have HC:=zI h;clear h)
  go_ret2
  exact ⟨rfl,HC.out⟩
 ·have hf:Hid ((Tr.T.leaf a).find p=none):=by show _=_;simp only[Tr.T.find];rw[if_neg hp]
  rw[hf.out];have hq:((a:Int) ==p)=false:=by rw[bF];exact hp
  clear hp hf;go_enter Tryz.func104,Tryz.ntmps104;go_wp2_with (go_at_call 153;refine (end_leaf a _).mono ?_;rintro e w' ⟨rfl,h⟩;have HC:=zI h;clear h)
  go_ret2
  exact ⟨rfl,(HC.out.alloc _).alloc _⟩
def FindC (t:Tr.T) (p:Int):Prop:=∀ w,Calls Tryz.prog 104 #[.iface (typT t) (.agg (cellT t)),.int .i64 p] w fun e w'=>FindR (t.find p) e/\Chg (fun _=>False) w w'
theorem FindC.known {t:Tr.T} {p:Int} (h:FindC t p):∃ v b,(∀ w,Calls Tryz.prog 104 #[.iface (typT t) (.agg (cellT t)),.int .i64 p] w fun e w'=>e=.returned (.tuple #[v,.bool b])/\Chg (fun _=>False) w w')/\FindR (t.find p) (.returned (.tuple #[v,.bool b])):=by
 rcases hf:t.find p with _ | s
 ·refine ⟨.nilIface,false,fun w=>(h w).mono ?_,rfl⟩;rw[hf];exact fun e w' h=>h
 ·refine ⟨valT s,true,fun w=>(h w).mono ?_,rfl⟩;rw[hf];exact fun e w' h=>h
theorem find_one (a:Nat) (x:Tr.T) (p:Int) (hx:FindC x p) (w:World):Calls Tryz.prog 104 #[.iface 161 (.agg #[.int .i64 a,.iface (typT x) (.agg (cellT x))]),.int .i64 p] w fun e w'=>FindR ((Tr.T.one a x).find p) e/\Chg (fun _=>False) w w':=by
 have q3:=as_one1;have hm:=method_end_one a x;obtain ⟨v,b,hx1,hx2⟩:=hx.known;replace hx1:=zI hx1;by_cases hp:(a:Int)=p
 ·have hf:Hid ((Tr.T.one a x).find p=some (.one a x)):=by show _=_;simp only[Tr.T.find];rw[if_pos hp]
  rw[hf.out];have hq:((a:Int) ==p)=true:=by rw[beq_iff_eq];exact hp
  clear hp hf hx2;go_enter Tryz.func104,Tryz.ntmps104;go_wp2_with (go_at_call 149;refine (end_one a _ _).mono ?_;rintro e w' ⟨rfl,h⟩;have HC:=zI h;clear h)
  go_ret2
  exact ⟨by rw[show FindR (some (Tr.T.one a x))=fun e=>e=.returned (.tuple #[valT (.one a x),.bool true]) from rfl,valT_one];rfl,HC.out⟩
 ·have hf:Hid ((Tr.T.one a x).find p=x.find p):=by show _=_;simp only[Tr.T.find];rw[if_neg hp]
  rw[hf.out];replace hx2:=zI hx2;have hq:((a:Int) ==p)=false:=by rw[bF];exact hp
  clear hp hf;go_enter Tryz.func104,Tryz.ntmps104;go_wp2_with (first | (go_at_call 149;refine (end_one a _ _).mono ?_;rintro e w' ⟨rfl,h⟩;have HC:=zI h;clear h) | (go_at_call 104;refine (hx1.out _).mono ?_;rintro e w' ⟨rfl,h⟩;have HD:=zI h;clear h))
  go_ret2
  exact ⟨hx2.out,Ct (HC.out.alloc _) HD.out⟩
theorem find_two (a:Nat) (x y:Tr.T) (p:Int) (hx:FindC x p) (hy:FindC y p) (w:World):Calls Tryz.prog 104 #[.iface 164 (.agg #[.int .i64 a,.iface (typT x) (.agg (cellT x)),.iface (typT y) (.agg (cellT y))]),.int .i64 p] w fun e w'=>FindR ((Tr.T.two a x y).find p) e/\Chg (fun _=>False) w w':=by
 have q4:=as_two1;have q5:=as_two2;have hm:=method_end_two a x y;obtain ⟨v,b,hx1,hx2⟩:=hx.known;replace hx1:=zI hx1;obtain ⟨v2,b2,hy1,hy2⟩:=hy.known;replace hy1:=zI hy1;by_cases hp:(a:Int)=p
 ·have hf:Hid ((Tr.T.two a x y).find p=some (.two a x y)):=by show _=_;simp only[Tr.T.find];rw[if_pos hp]
  rw[hf.out];have hq:((a:Int) ==p)=true:=by rw[beq_iff_eq];exact hp
  clear hp hf hx2 hy2;go_enter Tryz.func104,Tryz.ntmps104;go_wp2_with (go_at_call 151;refine (end_two a _ _ _).mono ?_;rintro e w' ⟨rfl,h⟩;have HC:=zI h;clear h)
  go_ret2
  exact ⟨by rw[show FindR (some (Tr.T.two a x y))=fun e=>e=.returned (.tuple #[valT (.two a x y),.bool true]) from rfl,valT_two];rfl,HC.out⟩
 have hq:((a:Int) ==p)=false:=by rw[bF];exact hp
 by_cases hg:(a:Int) < p
 ·have hf:Hid ((Tr.T.two a x y).find p=none):=by show _=_;simp only[Tr.T.find];rw[if_neg hp,if_pos hg]
  rw[hf.out];have hg2:decide ((a:Int) < p)=true:=by rw[dT];exact hg
  clear hp hf hx2 hy2 hg;go_enter Tryz.func104,Tryz.ntmps104;go_wp2_with (go_at_call 151;refine (end_two a _ _ _).mono ?_;rintro e w' ⟨rfl,h⟩;have HC:=zI h;clear h)
  go_ret2
  exact ⟨rfl,(HC.out.alloc _).alloc _⟩
 have hg2:decide ((a:Int) < p)=false:=by rw[dF];exact hg
 have hmx:=method_end x;have hfx:=call_end x;have hex:=zI (end_any x);by_cases hl:p<=(x.endOf:Int)
 ·have hf:Hid ((Tr.T.two a x y).find p=x.find p):=by show _=_;simp only[Tr.T.find];rw[if_neg hp,if_neg hg,if_pos hl]
  rw[hf.out];have hl2:decide (p<=(x.endOf:Int))=true:=by rw[dT];exact hl
  replace hx2:=zI hx2;clear hp hf hg hl;go_enter Tryz.func104,Tryz.ntmps104;go_wp2_with (first | (go_at_call 151;refine (end_two a _ _ _).mono ?_;rintro e w' ⟨rfl,h⟩;have HC:=zI h;clear h) | (go_at_call 104;refine (hx1.out _).mono ?_;rintro e w' ⟨rfl,h⟩;have HD:=zI h;clear h) | (refine (hex.out _).mono ?_;rintro e w' ⟨rfl,h⟩;have HE:=zI h;clear h;have e1:=two_cells HE.out (fun _ h=>h) 1 rfl;have e2:=two_cells HE.out (fun _ h=>h) 2 rfl))
  go_ret2
  exact ⟨hx2.out,Ct (Ct ((HC.out.alloc _).alloc _) HE.out) HD.out⟩
 ·have hf:Hid ((Tr.T.two a x y).find p=y.find p):=by show _=_;simp only[Tr.T.find];rw[if_neg hp,if_neg hg,if_neg hl]
  rw[hf.out];have hl2:decide (p<=(x.endOf:Int))=false:=by rw[dF];exact hl
  replace hy2:=zI hy2;clear hp hf hg hl;go_enter Tryz.func104,Tryz.ntmps104;go_wp2_with (first | (go_at_call 151;refine (end_two a _ _ _).mono ?_;rintro e w' ⟨rfl,h⟩;have HC:=zI h;clear h) | (go_at_call 104;refine (hy1.out _).mono ?_;rintro e w' ⟨rfl,h⟩;have HD:=zI h;clear h) | (refine (hex.out _).mono ?_;rintro e w' ⟨rfl,h⟩;have HE:=zI h;clear h;have e1:=two_cells HE.out (fun _ h=>h) 1 rfl;have e2:=two_cells HE.out (fun _ h=>h) 2 rfl))
  go_ret2
  exact ⟨hy2.out,Ct (Ct ((HC.out.alloc _).alloc _) HE.out) HD.out⟩
theorem find_any (p:Int):∀ t:Tr.T,FindC t p
 | .leaf a=>fun w=>find_leaf a p w
 | .one a x=>fun w=>by
  have h:=find_one a x p (find_any p x) w;rw[<-cell_one] at h;exact h
 | .two a x y=>fun w=>by
  have h:=find_two a x y p (find_any p x) (find_any p y) w;rw[<-cell_two] at h;exact h
section
variable (w:World) (A:Option Addr) (c:Nat) (f:List Nm.Item) (hl:f.length<=maxLen) (hr:Rd w w.heap.size A (cellsI f))
include hl hr
theorem built_ok (t:Tr.T) (ht:Tr.run (sg f) f.length=some [t]) (h0:Tr.check (sg f) f.length=0):Calls Tryz.prog 36 #[.slice A f.length c] w fun e w'=>e=.returned (.tuple #[.iface (typT t) (.agg (cellT t)),.int .i64 0])/\Chg (fun _=>False) w w':=by
 refine (built_any w A c f hl hr).mono ?_;rintro e w' ⟨h | h,hc⟩
 ·obtain ⟨t',h1,_,h2⟩:=h;rw[ht] at h1;injection h1 with h1;injection h1 with h1;subst h1;exact ⟨by rw[h2,valT_eq],hc⟩
 ·exact absurd h0 h.1
theorem built_bad (h0:Tr.check (sg f) f.length ≠ 0):Calls Tryz.prog 36 #[.slice A f.length c] w fun e w'=>e=.returned (.tuple #[.nilIface,.int .i64 (Tr.check (sg f) f.length)])/\Chg (fun _=>False) w w':=by
 refine (built_any w A c f hl hr).mono ?_;rintro e w' ⟨h | h,hc⟩
 ·obtain ⟨t',_,h1,h2⟩:=h;exact absurd h1 h0
 ·exact ⟨h.2,hc⟩
theorem check_any:Calls Tryz.prog 13 #[.slice A f.length c] w fun e w'=>e=.returned (.int .i64 (Tr.check (sg f) f.length))/\Chg (fun _=>False) w w':=by
 by_cases h0:Tr.check (sg f) f.length=0
 ·obtain ⟨t,ht⟩:=(Tr.form_iff _).1 (Tr.check_zero.1 h0).2.2;have hb:=zI (built_ok w A c f hl hr t ht h0);rw[h0];clear h0 ht hr;go_enter Tryz.func13,Tryz.ntmps13;go_wp2_with (go_at_call 36;refine (hb.out).mono ?_;rintro e w' ⟨rfl,h⟩;have HC:=zI h;clear h)
  go_ret;exact ⟨rfl,HC.out⟩
 ·have hb:=zI (built_bad w A c f hl hr h0);clear h0 hr;go_enter Tryz.func13,Tryz.ntmps13;go_wp2_with (go_at_call 36;refine (hb.out).mono ?_;rintro e w' ⟨rfl,h⟩;have HC:=zI h;clear h)
  go_ret;exact ⟨rfl,HC.out⟩
theorem part_ok (k:Nat) (hk:k < f.length) (h0:Tr.check (sg f) f.length=0):∃ s b,Tr.WF (sg f) s b (k+1)/\Calls Tryz.prog 73 #[.slice A f.length c,.int .i64 k] w fun e w'=>e=.returned (.tuple #[.iface (typT s) (.agg (cellT s)),.bool true])/\Chg (fun _=>False) w w':=by
 obtain ⟨hz,h64,hbg⟩:=Tr.check_zero.1 h0;obtain ⟨t,ht⟩:=(Tr.form_iff _).1 hbg;obtain ⟨s,b,hs,_,hw⟩:=(Tr.form_wf ht).find k (Nat.zero_le _) hk;refine ⟨s,b,hw,?_⟩;have hb:=zI (built_ok w A c f hl hr t ht h0);have hfd:=find_any k t;unfold FindC at hfd;rw[hs] at hfd;replace hfd:=zI hfd;have hk1:decide ((k:Int) < 0)=false:=by rw[dF];omega
 have hk2:decide ((f.length:Int)<=(k:Int))=false:=by rw[dF];omega
 clear h0 ht hr hbg hs hw;go_enter Tryz.func73,Tryz.ntmps73;go_wp2_with (first | (go_at_call 36;refine (hb.out).mono ?_;rintro e w' ⟨rfl,h⟩;have HC:=zI h;clear h) | (go_at_call 104;refine (hfd.out _).mono ?_;rintro e w' ⟨hF,h⟩;obtain rfl:_=_:=hF;have HD:=zI h;clear h;rw[valT_eq]))
 go_ret2
 exact ⟨rfl,Ct HC.out HD.out⟩
theorem kids_ok (k:Nat) (hk:k < f.length) (h0:Tr.check (sg f) f.length=0):Calls Tryz.prog 37 #[.slice A f.length c,.int .i64 k] w fun e w'=>KidsR w (Tr.kidsB (sg f) k) e w':=by
 obtain ⟨s,b,hw,hp⟩:=part_ok w A c f hl hr k hk h0;rw[hw.kids];replace hp:=zI hp;clear hr hw h0;have q1:=as_leaf1;have q2:=as_leaf2;have q3:=as_one1;have q4:=as_two1;have q5:=as_two2;cases s with
 | leaf a=>
  rw[show (typT (.leaf a))=190 from rfl,show cellT (.leaf a)=#[.int .i64 a] from rfl] at hp;go_enter Tryz.func37,Tryz.ntmps37;go_wp2_with (go_at_call 73;refine (hp.out).mono ?_;rintro e w' ⟨rfl,h⟩;have HC:=zI h;clear h)
  go_ret;exact ⟨none,0,rfl,Nat.zero_le _,fun h=>absurd h (Nat.lt_irrefl 0),HC.out,fun ad h=>by cases h⟩
 | one a x=>
  rw[show (typT (.one a x))=161 from rfl,cell_one] at hp;have hm:=method_end x;have hf:=call_end x;have he:=zI (end_any x);go_enter Tryz.func37,Tryz.ntmps37;go_wp2_with (first | (go_at_call 73;refine (hp.out).mono ?_;rintro e w' ⟨rfl,h⟩;have HC:=zI h;clear h) | (refine (he.out _).mono ?_;rintro e w' ⟨rfl,h⟩;have HD:=zI h;clear h))
  go_ret;exact kids_one _ _ (Ct (HC.out.alloc _) HD.out)
 | two a x y=>
  rw[show (typT (.two a x y))=164 from rfl,cell_two] at hp;have hm:=method_end x;have hf:=call_end x;have he:=zI (end_any x);have hm2:=method_end y;have hf2:=call_end y;have he2:=zI (end_any y);go_enter Tryz.func37,Tryz.ntmps37;go_wp2_with (go_at_call 73;refine (hp.out).mono ?_;rintro e w' ⟨rfl,h⟩;have HC:=zI h;clear h)
  have c0:(w'.alloc (.cells #[.int .i64 a,.iface (typT x) (.agg (cellT x)),.iface (typT y) (.agg (cellT y))] 164)).cell? ⟨w'.heap.size,1,none⟩=some (.iface (typT x) (.agg (cellT x))):=by rw[(Blk.new w' 164 _).cell];rfl
  have c1:(w'.alloc (.cells #[.int .i64 a,.iface (typT x) (.agg (cellT x)),.iface (typT y) (.agg (cellT y))] 164)).cell? ⟨w'.heap.size,2,none⟩=some (.iface (typT y) (.agg (cellT y))):=by rw[(Blk.new w' 164 _).cell];rfl
  have HW:=zI (HC.out.alloc (.cells #[.int .i64 a,.iface (typT x) (.agg (cellT x)),.iface (typT y) (.agg (cellT y))] 164));obtain ⟨w2,hw2⟩:∃ w2,w2=w'.alloc (.cells #[.int .i64 a,.iface (typT x) (.agg (cellT x)),.iface (typT y) (.agg (cellT y))] 164):=⟨_,rfl⟩;rw[<-hw2] at c0 c1 HW |-;clear hw2 q1 q2 q3 q4 q5 HC
  go_region_with (first | (refine (he.out _).mono ?_;rintro e w' ⟨rfl,h⟩;have HD:=zI h;clear h;try (have d0:=keep_cell HD.out (fun _ h=>h) (by exact c0);have d1:=keep_cell HD.out (fun _ h=>h) (by exact c1))) | (refine (he2.out _).mono ?_;rintro e w' ⟨rfl,h⟩;have HE:=zI h;clear h;try (have d0:=keep_cell HE.out (fun _ h=>h) (by exact c0);have d1:=keep_cell HE.out (fun _ h=>h) (by exact c1))))
  all_goals (go_wp2_with fail)
  all_goals go_ret
  all_goals first | exact kids_two _ _ _ (Ct (Ct HW.out.drew HD.out) HE.out) | exact kids_two _ _ _ (Ct (Ct HW.out.drew HE.out) HD.out)
end
theorem n62:Tryz.prog.cellsOf 62=2:=by kernel_rfl
theorem lits62 (d:Nat) {a b:Int} (ha:inR a) (hb:inR b):Tryz.prog.keyLits (d+1+1) 62 [.int .i64 a,.int .i64 b]=some [.int .i64 a,.int .i64 b]:=by
 conv=>lhs;unfold Program.keyLits
 rw[Tryz.underlying62];simp[n62,n3,lits3 d ha,lits3 d hb,List.range,List.range.loop]
theorem arr_key {x:Int × Int} (h:inR x.1/\inR x.2):∃ l,keyOf Tryz.prog 62 (.agg #[.int .i64 x.1,.int .i64 x.2])=some l:=by
 have hk:Tryz.prog.keyType 62=true:=by kernel_rfl
 have hf:(Value.agg #[.int .i64 x.1,.int .i64 x.2]).formed Tryz.prog 62=true:=by simp[Value.formed,Tryz.underlying62,n62]
 unfold keyOf;rw[Tryz.underlying62];simp only[hk,hf,Bool.and_self,if_true];have hl:Tryz.prog.keyLits (Tryz.prog.types.size+1) 62 (Value.agg #[.int .i64 x.1,.int .i64 x.2]).cells.toList=some [.int .i64 x.1,.int .i64 x.2]:=by
  rw[types_size];exact lits62 _ h.1 h.2
 rw[hl];exact ⟨_,rfl⟩
theorem arr_inj {x y:Value} {l:Lit} (h1:keyOf Tryz.prog 62 x=some l) (h2:keyOf Tryz.prog 62 y=some l):x=y:=
 (deep_law_laid laidAll (m:=100) (by omega) (of_decide_eq_true (by kernel_rfl)) (by kernel_rfl) (by rw[Tryz.underlying62])).inj h1 h2
theorem eq_arr {x y:Int × Int} (hx:inR x.1/\inR x.2) (hy:inR y.1/\inR y.2) (w:World):(Op.equal 62 (.agg #[.int .i64 x.1,.int .i64 x.2]) (.agg #[.int .i64 y.1,.int .i64 y.2])).run Tryz.prog w=.ok (decide (x=y)) w:=by
 obtain ⟨l1,h1⟩:=arr_key hx;obtain ⟨l2,h2⟩:=arr_key hy;obtain ⟨r,h,hr⟩:=run_equal_deep (P:=Tryz.prog) w (m:=100) (k:=62) (by omega) (by kernel_rfl) (by rw[Tryz.underlying62]) h1 h2;have:decide (x=y)=r:=by
  cases r with
  | false=>
   rw[dF];intro e;subst e;rw[h1] at h2;injection h2 with h2;exact absurd (hr.2 h2) (by simp)
  | true=>
   rw[dT];have e:=hr.1 rfl;subst e;have:=arr_inj h1 h2;obtain ⟨a,b⟩:=x;obtain ⟨c,d⟩:=y;simp at this;simp[this]
 rw[h,this]
def InsR (B:Nat) (l:List Nm.Inst) (v:Value) (w:World):Prop:=∃ A c,v=.slice A l.length c/\Rd w w.heap.size A (l.flatMap instV7)/\∀ ad,A=some ad->0 < l.length->B<=ad.block
theorem InsR.later {B:Nat} {l:List Nm.Inst} {v:Value} {w w':World} (h:InsR B l v w) (hc:Chg (fun _=>False) w w'):InsR B l v w':=let ⟨A,c,h1,h2,h3⟩:=h;⟨A,c,h1,h2.later hc (fun _ h=>h.elim),h3⟩
theorem InsR.less {B B':Nat} {l:List Nm.Inst} {v:Value} {w:World} (h:InsR B l v w) (hb:B'<=B):InsR B' l v w:=let ⟨A,c,h1,h2,h3⟩:=h;⟨A,c,h1,h2,fun ad a b=>Nat.le_trans hb (h3 ad a b)⟩
def opI (op:Int):Nm.Inst:=⟨op,0,0,0,0,0,0⟩
def ckT (l:List Nm.Inst):Int:=Tr.check (sg (shp l)) l.length
def tlB (l:List Nm.Inst):Bool:=l.all (fun x=>!decide (19<=x.op)) && (ckT l ==0)
theorem ckT_eq (l:List Nm.Inst):Tr.check (sg (l.map toItem)) (l.map toItem).length=ckT l:=by unfold ckT shp;rw[List.length_map]
theorem timeless_any (w:World) (A:Option Addr) (c:Nat) (l:List Nm.Inst) (hl:l.length<=4000000) (hr:Rd w w.heap.size A (l.flatMap instV7)):Calls Tryz.prog 38 #[.slice A l.length c] w fun e w'=>e=.returned (.bool (tlB l))/\Chg (fun _=>False) w w':=by
 have HR:=zI (fun (w':World) (h:Chg (fun _=>False) w w')=>hr.later h (fun _ h=>h.elim));clear hr;go_enter Tryz.func38,Tryz.ntmps38;go_wp2_with fail
 go_loopw [7] (fun x wr=>∃ j:Nat,j<=l.length/\x=.int .i64 j/\Hid ((l.take j).all (fun x=>!decide (19<=x.op))=true)/\Hid (Chg (fun _=>False) w wr)) (fun x _=>l.length - (intOf x).toNat)
 case atStart=>exact ⟨0,Nat.zero_le _,rfl,zI (by simp),Chg.refl _ _⟩
 case round=>
  obtain ⟨j,hj,rfl,ha,hC⟩:=hrel;by_cases hlt:j < l.length
  ·obtain ⟨x,hx⟩:∃ x,l[j]?=some x:=⟨_,gG hlt⟩;obtain ⟨xb,o,hA,hxb,c0,c1,c2,c3,c4,c5,c6⟩:=ins_at (HR.out wr hC.out) hx;subst hA;have hx':=zI hx;have C1:Hid (Chg (fun _=>False) w (wr.alloc (.cells #[.int .i64 x.op,.int .i64 x.la,.int .i64 x.lnum,.int .i64 x.ra,.int .i64 x.rnum,.int .i64 x.n,.int .i64 x.user] 83))):=hC.out.alloc _;have y0:(wr.alloc (.cells #[.int .i64 x.op,.int .i64 x.la,.int .i64 x.lnum,.int .i64 x.ra,.int .i64 x.rnum,.int .i64 x.n,.int .i64 x.user] 83)).cell? ⟨wr.heap.size,0,none⟩=some (.int .i64 x.op):=by rw[(Blk.new wr 83 _).cell];rfl
   obtain ⟨b,hb⟩:∃ b,decide (19<=x.op)=b:=⟨_,rfl⟩;clear hx;cases b with
   | true=>
    have hv:Hid (tlB l=false):=by
     have h9:l.all (fun x=>!decide (19<=x.op))=false:=by
      rw[List.all_eq_false];exact ⟨x,List.mem_of_getElem? hx'.out,by rw[hb];simp⟩
     show _=_;unfold tlB;rw[h9,Bool.false_and]
    go_wp2
    go_ret;exact ⟨by rw[hv.out];rfl,C1.out⟩
   | false=>
    have ha2:Hid ((l.take (j+1)).all (fun x=>!decide (19<=x.op))=true):=by
     obtain ⟨hk,he⟩:=List.getElem?_eq_some_iff.1 hx'.out;show _=_;rw[List.take_succ_eq_append_getElem hk,List.all_append,ha.out,he];simp[hb]
    go_wp2_with fail
    go_roundw
    case rel=>exact ⟨j+1,by omega,by go_num,ha2,C1⟩
    case measure=>(simp[intOf]<;>omega)
  ·obtain rfl:j=l.length:=by omega
   have hv:Hid (tlB l=(ckT l ==0)):=by
    have:=ha.out;rw[List.take_length] at this;show _=_;unfold tlB;rw[this,Bool.true_and]
   have HI:=zI (items_any wr A c l (by omega) (HR.out wr hC.out));clear ha;go_wp2_with fail
   go_at_call 14
   refine HI.out.mono ?_;rintro e w2 ⟨B,b,rfl,hB,hC2⟩;have C2:=zI (Ct hC.out hC2);have HC:=zI (check_any w2 B b (l.map toItem) (by rw[List.length_map];unfold maxLen;omega) hB);rw[ckT_eq] at HC;rw[List.length_map] at HC |-;obtain ⟨k,hk⟩:∃ k,k=ckT l:=⟨_,rfl⟩;rw[<-hk] at HC hv;clear hB hC2 HI hk;go_wp2_with fail
   go_at_call 13
   refine HC.out.mono ?_;rintro e w3 ⟨rfl,hC3⟩;have C3:=zI (Ct C2.out hC3);clear hC3 HC;go_wp2
   go_ret;exact ⟨by rw[hv.out];rfl,C3.out⟩
theorem always_any (w:World):Calls Tryz.prog 39 #[] w fun e w'=>(∃ v,e=.returned v/\InsR w.heap.size [opI 1] v w')/\Chg (fun _=>False) w w':=by
 have hb:=zI (Blk.new w 83 #[.int .i64 1,.int .i64 0,.int .i64 0,.int .i64 0,.int .i64 0,.int .i64 0,.int .i64 0]);go_enter Tryz.func39,Tryz.ntmps39;go_wp2
 go_ret;exact ⟨⟨_,rfl,_,1,rfl,fun _=>⟨_,rfl,by simp,by exact all_new hb.out⟩,fun ad a _=>by injection a with a;subst a;exact Nat.le_refl _⟩,(Chg.refl _ w).alloc _⟩
structure RIn where
 a:Option Addr
 l:List Nm.Inst
 c:Nat
def rinC (r:RIn):List Value:=[.slice r.a r.l.length r.c]
theorem instCs_one (l:List Nm.Inst):∀ u ∈ l.flatMap instV7,u.oneCell'=true:=by
 intro u hu;obtain ⟨x,_,hx⟩:=List.mem_flatMap.1 hu;simp[instV7] at hx;rcases hx with rfl | rfl | rfl | rfl | rfl | rfl | rfl<;>rfl
theorem instCs_len (l:List Nm.Inst):(l.flatMap instV7).length=l.length * 7:=by
 induction l with
 | nil=>rfl
 | cons x l ih=>rw[List.flatMap_cons,List.length_append,ih,List.length_cons];simp[instV7];omega
def catL (R:List RIn) (j:Nat):List Nm.Inst:=(R.take j).flatMap (·.l)
theorem catL_succ {R:List RIn} {j:Nat} {r:RIn} (h:R[j]?=some r):catL R (j+1)=catL R j++r.l:=by
 obtain ⟨hk,rfl⟩:=List.getElem?_eq_some_iff.1 h;unfold catL;rw[List.take_succ_eq_append_getElem hk,List.flatMap_append];simp
theorem le_step {n a j B:Nat} (h:n<=j * B) (ha:a<=B):n+a<=(j+1) * B:=by rw[Nat.succ_mul];omega
theorem catL_le {R:List RIn} (h:∀ r ∈ R,r.l.length<=1000):∀ j,(catL R j).length<=j * 1000
 | 0=>by simp[catL]
 | j+1=>by
  have ih:=catL_le h j;cases hr:R[j]? with
  | none=>
   have:R.take (j+1)=R.take j:=by
    have:=List.getElem?_eq_none_iff.1 hr;rw[List.take_of_length_le (by omega),List.take_of_length_le (by omega)]
   unfold catL at ih |-;rw[this];exact Nat.le_trans ih (Nat.mul_le_mul_right _ (Nat.le_succ _))
  | some r=>
   rw[catL_succ hr,List.length_append];exact le_step ih (h r (List.mem_of_getElem? hr))
theorem with_any (w:World) (op:Int) (V:Option Addr) (c:Nat) (R:List RIn) (hV:Rd w w.heap.size V (R.flatMap rinC)) (hE:∀ r ∈ R,Rd w w.heap.size r.a (r.l.flatMap instV7)/\r.l.length<=1000) (hR:R.length<=4):
  Calls Tryz.prog 41 #[.int .i64 op,.slice V R.length c] w fun e w'=>(∃ v,e=.returned v/\InsR w.heap.size (R.flatMap (·.l)++[opI op]) v w')/\Chg (fun _=>False) w w':=by
 obtain ⟨i83,hi83,hz0,hz1,hz2⟩:=info_3 inst_info;have HV:=zI (fun (w':World) (h:Chg (fun _=>False) w w')=>hV.later h (fun _ h=>h.elim));have HE:=zI (fun (w':World) (h:Chg (fun _=>False) w w') (r:RIn) (hr:r ∈ R)=>(hE r hr).1.later h (fun _ h=>h.elim));have HL:=zI (fun r (hr:r ∈ R)=>(hE r hr).2);clear hV hE;go_enter Tryz.func41,Tryz.ntmps41;go_wp2_with fail
 go_loopw [10,5] (fun x v wr=>∃ j:Nat,j<=R.length/\x=.int .i64 j/\Hid (wr.ownsRow w.heap.size 83 7 v (catL R j).length ((catL R j).flatMap instV7))/\Hid (Chg (fun _=>False) w wr)) (fun x _ _=>R.length - (intOf x).toNat)
 case atStart=>exact ⟨0,Nat.zero_le _,rfl,zI (World.ownsRow_nil _ _ _ _),Chg.refl _ _⟩
 case round=>
  obtain ⟨j,hj,rfl,hO,hC⟩:=hrel;by_cases hlt:j < R.length
  ·obtain ⟨r,hr⟩:∃ r,R[j]?=some r:=⟨_,gG hlt⟩;obtain ⟨b0,o0,hA,_,hc⟩:=row_at (f:=rinC) (C:=1) (fun _=>rfl) (by omega) (HV.out wr hC.out) hr;have c0:=hc 0 _ rfl;rw[Nat.add_zero,Nat.mul_one] at c0;subst hA;have hRr:=zI (HE.out wr hC.out r (List.mem_of_getElem? hr));have hrl:=HL.out r (List.mem_of_getElem? hr);have hcl:=catL_le HL.out j;have hcs:=zI (catL_succ hr);obtain ⟨q,hq⟩:∃ q,q=(catL R j).length:=⟨_,rfl⟩;rw[<-hq] at hO hcl;replace hq:=zI hq;obtain ⟨B,cb,rfl,hb1,hb2⟩:=own_slice hO.out;replace hb1:=zI hb1;replace hb2:=zI hb2;clear hr hc;go_wp2_with (
    at_builtin
    refine wpList_copy rfl (.tmp 14) (.tmp 15) 33 rfl w.heap.size 83 i83 _ 7 56 Tryz.underlying33 hi83 hz0 hz1 hz2 rfl (by omega) (.slice B q cb) q ((catL R j).flatMap instV7) rfl hO.out r.a r.l.length r.c wr.heap.size (r.l.flatMap instV7) rfl (instCs_len _) hRr.out (instCs_one _) (by unfold maxLen;omega) (by omega) hC.out.size ?_;intro v6 w6 hO6 hg6;have C6:=zI (grown_chg hO.out (Nat.le_refl _) hC.out hg6);have O6:Hid (w6.ownsRow w.heap.size 83 7 v6 (catL R (j+1)).length ((catL R (j+1)).flatMap instV7)):=by
     show w6.ownsRow _ _ _ _ _ _;rw[hcs.out,List.length_append,List.flatMap_append,<-hq.out];exact hO6
    clear hO6 hg6)
   go_roundw
   case rel=>exact ⟨j+1,by omega,by go_num,O6,C6⟩
   case measure=>(simp[intOf]<;>omega)
  ·obtain rfl:j=R.length:=by omega
   have hcl:=catL_le HL.out R.length;have hca:Hid (catL R R.length=R.flatMap (·.l)):=by show _=_;unfold catL;rw[List.take_length]
   rw[hca.out] at hO hcl;obtain ⟨B,cb,hB,hb1,hb2⟩:=own_slice hO.out;obtain ⟨L,hL⟩:∃ L,L=R.flatMap (·.l):=⟨_,rfl⟩;rw[<-hL] at hO hB hcl;have hL':=zI hL;have hlc:L.length<=4000:=by omega
   obtain ⟨q,hq⟩:∃ q,q=L.length:=⟨_,rfl⟩;rw[<-hq] at hO hB hlc;replace hq:=zI hq;subst hB;clear hb1 hb2 hL hca hcl;go_wp2_with (
    at_builtin
    refine wpList_append_lies _ rfl (.tmp 18) (.tmp 21) 33 rfl w.heap.size 83 i83 _ 7 56 Tryz.underlying33 hi83 hz0 hz1 hz2 rfl (by omega) (.slice B q cb) q (L.flatMap instV7) rfl (by exact hO.out.alloc _) ⟨wr.heap.size,0,none⟩ 1 1 (instV7 (opI op)) rfl rfl (by exact all_new (Blk.new wr 83 (iA (opI op)))) (by have:=instCs_one [opI op];simpa using this) (by omega) (by unfold maxLen;omega) (by omega) (by have:=hC.out.size;simp;omega) (wr.heap.size+1) (by simp) ?_;intro g9 c9 w9 hown9 hg9 hat9 hlt9;have c9a:Chg (fun _=>False) wr (wr.alloc (.cells (iA (opI op)) 83)):=(Chg.refl _ _).alloc _;have C9:=zI (grown_chg (hO.out.alloc (.cells (iA (opI op)) 83)) (Nat.le_refl _) (Ct hC.out c9a) hg9);have hR9:Hid (Rd w9 w9.heap.size (some ⟨g9,0,none⟩) ((L++[opI op]).flatMap instV7)):=by
     have:=own_rdN hown9;refine zI ?_;rw[List.flatMap_append];simpa using this
    have hn9:=zI (hown9.lt g9 rfl).1;clear hown9 hg9 hat9 hlt9 c9a)
   go_ret;exact ⟨⟨_,rfl,by rw[<-hL'.out];exact ⟨_,_,by rw[List.length_append,<-hq.out];rfl,hR9.out,fun ad a _=>by injection a with a;subst a;exact hn9.out⟩⟩,C9.out⟩
theorem fnot_any (w:World) (A:Option Addr) (c:Nat) (l:List Nm.Inst) (hl:l.length<=1000) (hr:Rd w w.heap.size A (l.flatMap instV7)):Calls Tryz.prog 40 #[.slice A l.length c] w fun e w'=>(∃ v,e=.returned v/\InsR w.heap.size (l++[opI 15]) v w')/\Chg (fun _=>False) w w':=by
 have C1:Hid (Chg (fun _=>False) w (w.alloc (.cells #[.slice A l.length c] 33))):=(Chg.refl _ w).alloc _;have HW:=zI (with_any (w.alloc (.cells #[.slice A l.length c] 33)) 15 (some ⟨w.heap.size,0,none⟩) 1 [⟨A,l,c⟩] (fun _=>⟨_,rfl,by simp,by exact all_new (Blk.new w 33 #[.slice A l.length c])⟩) (fun r hr'=>by rw[List.mem_singleton.1 hr'];exact ⟨hr.later C1.out (fun _ h=>h.elim),hl⟩) (by simp));simp only[List.flatMap_cons,List.flatMap_nil,List.append_nil,List.length_cons,List.length_nil] at HW;clear hr;go_enter Tryz.func40,Tryz.ntmps40;go_wp2_with fail
 go_at_call 41
 refine HW.out.mono ?_;rintro e w2 ⟨⟨v,rfl,hv⟩,hC⟩;have hv':=zI (hv.less (B':=w.heap.size) (by simp));have C2:=zI (Ct C1.out hC);clear hv hC HW;go_wp2
 go_ret;exact ⟨⟨_,rfl,hv'.out⟩,C2.out⟩
structure FgC where
 path:Bool
 lasso:Bool
 aT:Option Addr
 th:List Nm.Inst
 cT:Nat
 aO:Option Addr
 to:List Nm.Inst
 cO:Nat
 aI:Option Addr
 inn:List Nm.Inst
 cI:Nat
def fgA (f:FgC):Array Value:=#[.bool f.path,.bool f.lasso,.slice f.aT f.th.length f.cT,.slice f.aO f.to.length f.cO,.slice f.aI f.inn.length f.cI]
def fewB (f:FgC):Bool:=decide (f.th.length<=64) && (decide (f.to.length<=64) && decide (f.inn.length<=64))
theorem few_any (w:World) (f:FgC):Calls Tryz.prog 18 #[.agg (fgA f)] w fun e w'=>e=.returned (.bool (fewB f))/\Chg (fun _=>False) w w':=by
 have hb:=Blk.new w 35 (fgA f);have C0:Hid (Chg (fun _=>False) w (w.alloc (.cells (fgA f) 35))):=(Chg.refl _ _).alloc _;have e2:(w.alloc (.cells (fgA f) 35)).cell? ⟨w.heap.size,2,none⟩=some (.slice f.aT f.th.length f.cT):=(hb.cell 2).trans rfl;have e3:(w.alloc (.cells (fgA f) 35)).cell? ⟨w.heap.size,3,none⟩=some (.slice f.aO f.to.length f.cO):=(hb.cell 3).trans rfl;have e4:(w.alloc (.cells (fgA f) 35)).cell? ⟨w.heap.size,4,none⟩=some (.slice f.aI f.inn.length f.cI):=(hb.cell 4).trans rfl;obtain ⟨p,hp⟩:∃ p,decide (f.th.length<=64)=p:=⟨_,rfl⟩;obtain ⟨q,hq⟩:∃ q,decide (f.to.length<=64)=q:=⟨_,rfl⟩;obtain ⟨r,hr⟩:∃ r,decide (f.inn.length<=64)=r:=⟨_,rfl⟩;have hv:Hid (fewB f=(p && (q && r))):=by show _=_;unfold fewB;rw[hp,hq,hr]
 have hpI:decide ((f.th.length:Int)<=(64:Int))=p:=by rw[<-hp,decide_eq_decide];omega
 have hqI:decide ((f.to.length:Int)<=(64:Int))=q:=by rw[<-hq,decide_eq_decide];omega
 have hrI:decide ((f.inn.length:Int)<=(64:Int))=r:=by rw[<-hr,decide_eq_decide];omega
 clear hb;unfold fgA at e2 e3 e4 C0 |-;cases p<;>cases q<;>cases r<;>(go_enter Tryz.func18,Tryz.ntmps18;go_wp2;go_ret;exact ⟨by rw[hv.out];rfl,C0.out⟩)
def lastO (l:List Nm.Inst) (k:Nat):Int:=(l.getD (l.length - k) (opI 0)).op
def formV (l:List Nm.Inst):Int × Int:=if lastO l 1=15/\1 < l.length then (15,lastO l 2) else (lastO l 1,0)
theorem lastO_at {l:List Nm.Inst} {k:Nat} {x:Nm.Inst} (h:l[l.length - k]?=some x):lastO l k=x.op:=by unfold lastO;rw[List.getD_eq_getElem?_getD,h];rfl
end
end Go.Proofs.YthohgagkjnbkbaaGreat
