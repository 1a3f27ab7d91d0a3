/- FragTrue, part 42: FrZj. Each theorem says what a function does, or a plain fact, under its own premises alone. -/
import Derived.Test.YthohgagkjnbkbaaGreatP41
set_option maxRecDepth 100000
set_option maxHeartbeats 16000000
namespace Go.Proofs.YthohgagkjnbkbaaGreat
section
open Go.RowKit
theorem zone_info:(Tryz.prog.info? 88).map (fun i=>(i.zero,i.size,i.bytes))=some (some (.agg #[.slice none 0 0,.slice none 0 0]),2,48):=by kernel_rfl
structure ZL (w:World) (B:Nat) (v:Value) (l:List ZC) (n k:Nat):Prop where
 own:w.ownsRow B 88 2 v l.length (l.flatMap zC)
 each:∀ z ∈ l,ZT w z/\z.cl.length<=n/\z.gl.length<=k
theorem ZL.nil (w:World) (B n k:Nat):ZL w B (.slice none 0 0) [] n k:=⟨World.ownsRow_nil _ _ _ _,fun z h=>by simp at h⟩
theorem ZL.later {w w':World} {B n k:Nat} {v:Value} {l:List ZC} (h:ZL w B v l n k) (hc:Chg (fun _=>False) w w'):ZL w' B v l n k:=⟨own_chg h.own hc (fun _ _ h=>h),fun z hz=>let ⟨h1,h2⟩:=h.each z hz;⟨h1.later hc,h2⟩⟩
theorem ZL.less {w:World} {B B' n k:Nat} {v:Value} {l:List ZC} (h:ZL w B v l n k) (hb:B'<=B):ZL w B' v l n k:=⟨own_less h.own hb,h.each⟩
theorem zC_one (z:ZC):∀ u ∈ zC z,u.oneCell'=true:=fun u hu=>by
 simp[zC] at hu;rcases hu with rfl | rfl<;>rfl
theorem ZL.chgS {w w':World} {B n k:Nat} {v:Value} {l:List ZC} (h:ZL w B v l n k) (hc:Chg (fun k=>v.ownBlock=some k) w w'):∀ z ∈ l,ZT w' z/\z.cl.length<=n/\z.gl.length<=k:=fun z hz=>let ⟨h1,h2⟩:=h.each z hz;⟨h1.far hc (fun k hk _=>let ⟨cur,hb⟩:=own_blk h.own hk;⟨88,cur,hb,by decide,by decide⟩),h2⟩
theorem ZL.more {wa w':World} {B n k:Nat} {v v':Value} {l:List ZC} {z:ZC} {o:Obj} (h:ZL wa B v l n k) (hz:ZT wa z) (hn:z.cl.length<=n) (hk:z.gl.length<=k) (ho:w'.ownsRow B 88 2 v' (l.length+1) (l.flatMap zC++zC z)) (hg:(wa.alloc o).grownBy w' v.ownBlock):ZL w' B v' (l++[z]) n k:=by
 have hc:Chg (fun k=>v.ownBlock=some k) wa w':=Chg.grown ((Chg.refl _ wa).alloc o) hg (fun k hk=>.inl hk);refine ⟨by rw[List.length_append,List.flatMap_append];simpa using ho,fun x hx=>?_⟩;rcases List.mem_append.1 hx with hx | hx
 ·exact h.chgS hc x hx
 ·rw[List.mem_singleton.1 hx];exact ⟨hz.far hc (fun k hk _=>let ⟨cur,hb⟩:=own_blk h.own hk;⟨88,cur,hb,by decide,by decide⟩),hn,hk⟩
theorem ZL.chg {w0 wa w':World} {B n k:Nat} {v:Value} {l:List ZC} {o:Obj} (h:ZL wa B v l n k) (hB:w0.heap.size<=B) (hC:Chg (fun _=>False) w0 wa) (hg:(wa.alloc o).grownBy w' v.ownBlock):Chg (fun _=>False) w0 w':=
 Chg.trans hC (Chg.grown (S:=fun k=>v.ownBlock=some k) ((Chg.refl _ wa).alloc o) hg (fun k hk=>.inl hk)) (fun i hi e=>by have:=(h.own.lt i e).1;omega)
def puB (r:Int):Nat:=2 * (capN (r - 1)+1)+14 * (1+(capN (r - 1)+1) * (capN (r - 1)+1))
def ZsR (w0:World) (b n k:Nat) (v:Value) (w':World):Prop:=∃ l:List ZC,ZL w' w0.heap.size v l n k/\l.length<=b
def RSp (sl:List (Int × Int)) (As:Option Addr) (w:World):Prop:=Rd w w.heap.size As (sl.flatMap soC)/\∀ ad,As=some ad->∃ cur,Blk w ad.block 62 cur
theorem RSp.far {sl:List (Int × Int)} {As:Option Addr} {S:Nat->Prop} {w w':World} (h:RSp sl As w) (hc:Chg S w w') (hS:∀ ad,As=some ad->¬ S ad.block):RSp sl As w':=⟨h.1.far hc (Nat.le_refl _) (fun ad e _=>hS ad e),fun ad e=>let ⟨cur,hb⟩:=h.2 ad e;⟨cur,hb.chg hc (hS ad e)⟩⟩
theorem run_lit2 {P:Program} {w:World} {a:Act} {t e:TypeId} {x y:Nat} {n m:Int} (ht:P.underlying t=some (.slice e)) {i:TypeInfo} (hi:P.info? e=some i) (hs:i.size=1) (hz:i.zero=some (.int .i64 0)) (hx:(a.tmps[x]?).getD undef=.int .i64 n) (hy:(a.tmps[y]?).getD undef=.int .i64 m):∀ o:Oper,o.op=.buildSlice t 2 #[(0,.tmp x),(1,.tmp y)]->(execOp a.eval o).run P w=.ok (.value (.slice (some ⟨w.heap.size,0,none⟩) 2 2)) (w.alloc (.cells #[.int .i64 n,.int .i64 m] e)):=by
 intro o h;simp[execOp,h,go_sem,Result.andThen,run_underlying ht,hi,sizeOf,typeInfo,hs,hz,hx,hy,zeroValue]
theorem run_litZ {P:Program} {w:World} {a:Act} {t e:TypeId} {x:Nat} {A B:Option Addr} {n c m d:Nat} (ht:P.underlying t=some (.slice e)) {i:TypeInfo} (hi:P.info? e=some i) (hs:i.size=2) (hz:i.zero=some (.agg #[.slice none 0 0,.slice none 0 0])) (hx:(a.tmps[x]?).getD undef=.agg #[.slice A n c,.slice B m d]):∀ o:Oper,o.op=.buildSlice t 1 #[(0,.tmp x)]->(execOp a.eval o).run P w=.ok (.value (.slice (some ⟨w.heap.size,0,none⟩) 1 1)) (w.alloc (.cells #[.slice A n c,.slice B m d] e)):=by
 intro o h;simp[execOp,h,go_sem,Result.andThen,run_underlying ht,hi,sizeOf,typeInfo,hs,hz,hx,zeroValue]
theorem rd_lit (w:World) (cs:Array Value) (e:TypeId):Rd (w.alloc (.cells cs e)) (w.alloc (.cells cs e)).heap.size (some ⟨w.heap.size,0,none⟩) cs.toList:=fun _=>⟨_,rfl,by simp,all_new (Blk.new w e cs)⟩
theorem own_I (w:World) (z:ZC) (aa at' r ahead behind:Int) (C:Option Addr) (c b:Nat) (cm:List Int) (hz:ZT w z) (hl:z.cl.length<=100/\z.gl.length<=100) (hat:0<=at'/\at'<=z.cl.length) (hah:0<=ahead/\ahead<=z.gl.length) (hbh:0<=behind/\behind<=z.gl.length) (hr:-1000<=r/\r<=1000) (hC:Rd w w.heap.size C (intsV cm)) (hcm:cm.length<=10) (hcr:∀ x ∈ cm,inR x) (hb:ahead+cm.length+(z.gl.length - behind)<=b):
  Calls Tryz.prog 111 #[.agg (zA z),.int .i64 aa,.int .i64 at',.int .i64 r,.int .i64 ahead,.slice C cm.length c,.int .i64 behind] w fun e w'=>(∃ v,e=.returned v/\ZoN w.heap.size (z.cl.length+1) b v w')/\Chg (fun _=>False) w w':=by
 obtain ⟨a',rfl⟩:=Int.eq_ofNat_of_zero_le hat.1;obtain ⟨b',rfl⟩:=Int.eq_ofNat_of_zero_le hah.1;obtain ⟨c',rfl⟩:=Int.eq_ofNat_of_zero_le hbh.1;refine (own_any w z aa a' r b' c' C c cm hz hl (by omega) (by omega) (by omega) hr hC hcm hcr).mono ?_;rintro e w' ⟨⟨v,h1,zz,h2,h3,h4,h5,h6⟩,hc⟩;exact ⟨⟨v,h1,zz,h2,h3,h4,by omega,h6⟩,hc⟩
theorem put24_any (w:World) (z:ZC) (aa r:Int) (hz:ZT w z) (hl:z.cl.length<=14/\z.gl.length<=100) (hr:-1000<=r/\r<=4):
  Calls Tryz.prog 84 #[.agg (zA z),.int .i64 aa,.int .i64 r] w fun e w'=>(∃ v,e=.returned v/\ZsR w (puB r) (z.cl.length+1) (z.cl.length+1) v w')/\Chg (fun _=>False) w w':=by
 obtain ⟨i8,hi8,z80,z81,z82⟩:=info_3 zone_info;obtain ⟨i3,hi3,z30,z31,z32⟩:=info_3 int_info;have hb:=Blk.new w 88 (zA z);have C0:=zI ((Chg.refl (fun _=>False) w).alloc (.cells (zA z) 88));obtain ⟨w1,hw1⟩:∃ w1,w1=w.alloc (.cells (zA z) 88):=⟨_,rfl⟩;have hs1:w1.heap.size=w.heap.size+1:=by rw[hw1];simp
 rw[<-hw1] at hb C0;have HE:=zI (fun (w':World) (h:Chg (fun _=>False) w1 w')=>zcells (hb.chg h (fun h=>h)));have HZ:=zI (fun (w':World) (h:Chg (fun _=>False) w1 w')=>(hz.later C0.out).later h);obtain ⟨l1,l2⟩:=hl;obtain ⟨r0,r4⟩:=hr;have hcR:=zI hz.ok.cin;have hnil:Hid (∀ b n k w',w1.heap.size<=w'.heap.size->ZsR w b n k (.slice none 0 0) w'):=fun b n k w' _=>⟨[],ZL.nil _ _ _ _,Nat.zero_le _⟩
 obtain ⟨e0,e1⟩:=HE.out w1 (Chg.refl _ _);have HO:=zI (fun (w':World) (h:Chg (fun _=>False) w1 w') (at' ahead behind:Int) (C:Option Addr) (c b:Nat) (cm:List Int) (hat:0<=at'/\at'<=z.cl.length) (hah:0<=ahead/\ahead<=z.gl.length) (hbh:0<=behind/\behind<=z.gl.length) (hC:Rd w' w'.heap.size C (intsV cm)) (hcm:cm.length<=10) (hcr:∀ x ∈ cm,inR x) (hb:ahead+cm.length+(z.gl.length - behind)<=b)=>own_I w' z aa at' r ahead behind C c b cm (HZ.out w' h) ⟨by omega,l2⟩ hat hah hbh ⟨r0,by omega⟩ hC hcm hcr hb);have HIn:=zI (fun (w':World) (h:Chg (fun _=>False) w1 w') (i:Nat) (hi:i < z.cl.length)=>in24_any w' z aa i r (HZ.out w' h) ⟨by omega,l2⟩ hi ⟨r0,by omega⟩);have HH:=zI (fun (w':World) (x:Int × Int) (hx:x ∈ z.cl)=>refHas_any w' x.1 aa (hcR.out x hx).1);have HCl:Hid (∀ w',Chg (fun _=>False) w1 w'->Rd w' w'.heap.size z.cA (z.cl.flatMap soC)):=fun w' h=>(HZ.out w' h).ok.cls
 have HGl:Hid (∀ w',Chg (fun _=>False) w1 w'->Rd w' w'.heap.size z.gA (intsV z.gl)):=fun w' h=>(HZ.out w' h).ok.gap
 clear hb hz;unfold zA at hw1 HO HIn |-;by_cases hr1:r < 1
 ·have dr:decide (r < 1)=true:=by simpa using hr1
  clear hr1;go_enter Tryz.func84,Tryz.ntmps84;go_wp2
  go_ret;rw[<-hw1];exact ⟨⟨_,rfl,hnil.out _ _ _ _ (Nat.le_refl _)⟩,C0.out⟩
 have dr:decide (r < 1)=false:=by simpa using hr1
 by_cases ha1:aa < 0
 ·have da:decide (aa < 0)=true:=by simpa using ha1
  clear hr1 ha1;go_enter Tryz.func84,Tryz.ntmps84;go_wp2
  go_ret;rw[<-hw1];exact ⟨⟨_,rfl,hnil.out _ _ _ _ (Nat.le_refl _)⟩,C0.out⟩
 have da:decide (aa < 0)=false:=by simpa using ha1
 by_cases ha2:30 < aa
 ·have da2:decide (30 < aa)=true:=by simpa using ha2
  clear hr1 ha1 ha2;go_enter Tryz.func84,Tryz.ntmps84;go_wp2
  go_ret;rw[<-hw1];exact ⟨⟨_,rfl,hnil.out _ _ _ _ (Nat.le_refl _)⟩,C0.out⟩
 have da2:decide (30 < aa)=false:=by simpa using ha2
 clear ha1 ha2;obtain ⟨nn,hnn⟩:∃ nn,nn=z.cl.length:=⟨_,rfl⟩;obtain ⟨gn,hgn⟩:∃ gn,gn=z.gl.length:=⟨_,rfl⟩;simp only[<-hnn] at e0 hw1 HE l1 HO HIn |-;simp only[<-hgn] at e1 hw1 HE l2 HO HIn |-;replace hnn:=zI hnn;replace hgn:=zI hgn;cases nn with
 | zero=>
  obtain ⟨bm,qm⟩:∃ b,((gn:Int) !=0)=b:=⟨_,rfl⟩;have qmN:(gn !=0)=bm:=by rw[<-qm,Bool.eq_iff_iff,bne_iff_ne,bne_iff_ne];omega
  cases bm with
  | true=>
   clear hr1;go_enter Tryz.func84,Tryz.ntmps84;go_wp2
   go_ret;rw[<-hw1];exact ⟨⟨_,rfl,hnil.out _ _ _ _ (Nat.le_refl _)⟩,C0.out⟩
  | false=>
   obtain rfl:gn=0:=by simpa using qmN
   clear qm qmN hr1;go_enter Tryz.func84,Tryz.ntmps84;go_wp2_with fail
   rw[<-hw1];clear hw1;go_loopw [8] (fun x wr=>x=.int .i64 0/\w1=wr) (fun _ _=>0)
   case atStart=>exact ⟨rfl,rfl⟩
   case round=>
    obtain ⟨rfl,rfl⟩:=hrel;have HO0:Hid (Calls Tryz.prog 111 #[.agg #[.slice z.cA 0 z.cC,.slice z.gA 0 z.gC],.int .i64 aa,.int .i64 0,.int .i64 r,.int .i64 0,.slice none 0 0,.int .i64 0] w1 fun e w'=>(∃ v,e=.returned v/\ZoN w1.heap.size 1 1 v w')/\Chg (fun _=>False) w1 w'):=HO.out w1 (Chg.refl _ _) 0 0 0 none 0 1 [] ⟨by omega,by omega⟩ ⟨by omega,by omega⟩ ⟨by omega,by omega⟩ (fun h=>by simp[intsV] at h) (by simp) (by simp) (by simp);go_wp2_with fail
    go_at_call 111
    refine HO0.out.mono ?_;rintro e w2 ⟨⟨v,rfl,zz,hzz,hz1,hz2,hz3,-⟩,hC2⟩;unfold zA at hzz;subst hzz;have C2:=zI (Ct C0.out hC2);have hfin:Hid (ZsR w (puB r) 1 1 (.slice (some ⟨w2.heap.size,0,none⟩) 1 1) (w2.alloc (.cells #[.slice zz.cA zz.cl.length zz.cC,.slice zz.gA zz.gl.length zz.gC] 88))):=by
     refine ⟨[zz],⟨?_,fun x hx=>?_⟩,by unfold puB;simp;omega⟩
     ·have:=World.ownsRow_lit (base:=w.heap.size) (e:=88) (size:=2) w2 #[.slice zz.cA zz.cl.length zz.cC,.slice zz.gA zz.gl.length zz.gC] 1 C2.out.size (by unfold maxLen;omega) rfl;simpa [zC] using this
     ·rw[List.mem_singleton.1 hx];exact ⟨hz1.later ((Chg.refl _ _).alloc _),hz2,hz3⟩
    have C3:Hid (Chg (fun _=>False) w (w2.alloc (.cells #[.slice zz.cA zz.cl.length zz.cC,.slice zz.gA zz.gl.length zz.gC] 88))):=C2.out.alloc _;clear hz1 hz2 hz3 hC2;go_wp2
    go_ret;exact ⟨⟨_,rfl,hfin.out⟩,C3.out⟩
 | succ p=>
  obtain ⟨bm,qm⟩:∃ b,((gn:Int) !=(p:Int))=b:=⟨_,rfl⟩;have hp0:((p:Int) < 0)=False:=eq_false (by omega);cases bm with
  | true=>
   clear hr1;go_enter Tryz.func84,Tryz.ntmps84;go_wp2
   go_ret;rw[<-hw1];exact ⟨⟨_,rfl,hnil.out _ _ _ _ (Nat.le_refl _)⟩,C0.out⟩
  | false=>
   obtain rfl:p=gn:=by rw[bne_eq_false_iff_eq] at qm;omega
   have hcl0:z.cl.length=p+1:=hnn.out.symm;have hgl0:z.gl.length=p:=hgn.out.symm;replace hcl0:=zI hcl0;replace hgl0:=zI hgl0;have HCP:=zI (fun w'=>cap_any w' (r - 1));have hK:=capN_small (r:=r - 1) (by omega);have hpu:Hid (puB r=2 * (capN (r - 1)+1)+14 * (1+(capN (r - 1)+1) * (capN (r - 1)+1))):=rfl;have HSp:=zI (fun w' g=>splits_any w' g r r4);unfold SpR at HSp;obtain ⟨K,hKe⟩:∃ K,K=capN (r - 1):=⟨_,rfl⟩;rw[<-hKe] at HCP hK hpu HSp;obtain ⟨KK,hKK⟩:∃ KK,KK=(K+1) * (K+1):=⟨_,rfl⟩;rw[<-hKK] at hpu HSp;have hKK2:KK<=256:=by rw[hKK];exact Nat.le_trans (Nat.mul_le_mul (show K+1<=16 by omega) (show K+1<=16 by omega)) (by decide)
   have hmul:Hid (∀ i:Nat,(i+1) * (1+KK)=i * (1+KK)+(1+KK)):=fun i=>by rw[Nat.add_mul,Nat.one_mul]
   have hbig:Hid (∀ i:Nat,i<=14->i * (1+KK)<=14 * (1+KK)):=fun i h=>Nat.mul_le_mul h (Nat.le_refl _)
   clear hKe hKK hnn hgn;go_enter Tryz.func84,Tryz.ntmps84;go_wp2_with fail
   rw[<-hw1];clear hw1 qm hp0;go_loopw [8] (fun x wr=>∃ j:Nat,j<=p+1/\x=.int .i64 j/\w1=wr) (fun x _=>p+1 - (intOf x).toNat)
   case atStart=>exact ⟨0,Nat.zero_le _,rfl,rfl⟩
   case round=>
    obtain ⟨j,hj,rfl,rfl⟩:=hrel;by_cases hlt:j < p+1
    ·obtain ⟨x,hx⟩:∃ x,z.cl[j]?=some x:=⟨_,gG (by rw[hcl0.out];exact hlt)⟩;obtain ⟨b0,o0,hA,_,c0,c1⟩:=so_at (HCl.out w1 (Chg.refl _ _)) hx;rw[hA] at e0;have HH2:=zI (HH.out w1 x (List.mem_of_getElem? hx));obtain ⟨hb,hhb⟩:∃ hb,hb=hasB x.1 aa:=⟨_,rfl⟩;rw[<-hhb] at HH2;clear hx hA hhb;cases hb with
     | true=>
      go_wp2_with (go_at_call 99;refine HH2.out.mono ?_;rintro e w' ⟨rfl,rfl⟩)
      go_ret;exact ⟨⟨_,rfl,hnil.out _ _ _ _ (Nat.le_refl _)⟩,C0.out⟩
     | false=>
      go_wp2_with (go_at_call 99;refine HH2.out.mono ?_;rintro e w' ⟨rfl,rfl⟩)
      go_roundw
      case rel=>exact ⟨j+1,by omega,by go_num,trivial⟩
      case measure=>(simp[intOf]<;>omega)
    ·obtain rfl:j=p+1:=by omega
     have dz:(((p:Int)+1) ==0)=false:=by rw[bF];omega
     have dz2:(((p+1:Nat):Int) ==0)=false:=by rw[bF];omega
     have dzN:(p+1 ==0)=false:=by rw[bF];omega
     clear e0 e1;go_wp2_with (go_at_call 107;refine (HCP.out _).mono ?_;rintro e w' ⟨rfl,rfl⟩)
     go_loopw [11,9] (fun x v wr=>∃ (g:Int) (l:List ZC),-1<=g/\g<=K/\x=.int .i64 g/\(l.length:Int)=K - g/\Hid (ZL wr w1.heap.size v l (p+2) (p+2))/\Hid (Chg (fun _=>False) w1 wr)) (fun x _ _=>(intOf x+1).toNat)
     case atStart=>exact ⟨K,[],by omega,Int.le_refl _,rfl,by simp,ZL.nil _ _ _ _,Chg.refl _ _⟩
     case round=>
      obtain ⟨g,l,hg0,hgK,rfl,hll,hL,CR⟩:=hrel;by_cases hlt:0<=g
      ·have dg:decide (0<=g)=true:=by simpa using hlt
       obtain ⟨e0,e1⟩:=HE.out wr CR.out;have C2:Hid (Chg (fun _=>False) w1 (wr.alloc (.cells #[.int .i64 g] 3))):=CR.out.alloc _;obtain ⟨e0',e1'⟩:=HE.out _ C2.out;have HO1:Hid (Calls Tryz.prog 111 #[.agg #[.slice z.cA (p+1) z.cC,.slice z.gA p z.gC],.int .i64 aa,.int .i64 0,.int .i64 r,.int .i64 0,.slice (some ⟨wr.heap.size,0,none⟩) 1 1,.int .i64 0] (wr.alloc (.cells #[.int .i64 g] 3)) fun e w'=>(∃ v,e=.returned v/\ZoN (wr.alloc (.cells #[.int .i64 g] 3)).heap.size (p+1+1) (p+1) v w')/\Chg (fun _=>False) (wr.alloc (.cells #[.int .i64 g] 3)) w'):=HO.out _ C2.out 0 0 0 (some ⟨wr.heap.size,0,none⟩) 1 (p+1) [g] ⟨by omega,by omega⟩ ⟨by omega,by omega⟩ ⟨by omega,by omega⟩ (own_rdlit wr g) (by simp) (by intro x hx;rw[List.mem_singleton.1 hx];unfold inR;omega) (by simp;omega);have hll2:=zI hll;have hlb:l.length<=100:=by omega
       clear hll;go_wp2_with fail
       go_at_call 111
       refine HO1.out.mono ?_;rintro e w3 ⟨⟨v,rfl,zz,hzz,hz1,hz2,hz3,-⟩,hC3⟩;unfold zA at hzz;subst hzz;have hL3:=zI ((hL.out.later ((Chg.refl _ _).alloc _)).later hC3);have C3:=zI (Ct C2.out hC3);have hzt:=zI hz1;have hzb:zz.cl.length<=p+2/\zz.gl.length<=p+2:=⟨by omega,by omega⟩;replace hzb:=zI hzb;clear hz1 hz2 hz3 hC3 e0 e1 e0' e1';go_wp2_with (at_builtin;refine wpList_append_own _ rfl (.tmp 66) (.tmp 73) 138 rfl w1.heap.size 88 i8 _ 2 48 Tryz.underlying138 hi8 z80 z81 z82 rfl (by omega) u9 l.length (l.flatMap zC) rfl (by exact hL3.out.own.alloc _) ⟨w3.heap.size,0,none⟩ 1 1 (zC zz) rfl rfl (by exact all_new (Blk.new w3 88 #[.slice zz.cA zz.cl.length zz.cC,.slice zz.gA zz.gl.length zz.gC])) (zC_one zz) (by unfold maxLen;omega) (by omega) (by have:=C3.out.size;simp;omega) ?_;intro v9 w9 hown9 hg9 hat9;have HL9:=zI (hL3.out.more hzt.out hzb.out.1 hzb.out.2 hown9 hg9);have C9:=zI (hL3.out.chg (Nat.le_refl _) C3.out hg9);clear hown9 hg9 hat9)
       go_roundw
       case rel=>exact ⟨g - 1,l++[zz],by omega,by omega,by go_num,by have:=hll2.out;rw[List.length_append];simp only[List.length_cons,List.length_nil];omega,HL9,C9⟩
       case measure=>(simp[intOf]<;>omega)
      ·obtain rfl:g=-1:=by omega
       have dg:decide ((0:Int)<=-1)=false:=by decide
       have hllA:l.length=K+1:=by omega
       replace hllA:=zI hllA;clear hll;go_wp2_with fail
       go_loopw [12,9,13,14] (fun x v _ _ wr=>∃ (i:Nat) (l:List ZC),i<=p+1/\x=.int .i64 i/\Hid (l.length<=K+1+i * (1+KK))/\Hid (ZL wr w1.heap.size v l (p+2) (p+2))/\Hid (Chg (fun _=>False) w1 wr)) (fun x _ _ _ _=>p+1 - (intOf x).toNat)
       case atStart=>exact ⟨0,l,Nat.zero_le _,rfl,zI (by have:=hllA.out;show _<=_;omega),hL,CR⟩
       case round=>
        rename World=>wq
        obtain ⟨i,l,hi,rfl,hll,hL,CR⟩:=hrel;by_cases hlt:i < p+1
        ·obtain ⟨e0,e1⟩:=HE.out wq CR.out;have HIn2:=zI (HIn.out wq CR.out i hlt);have hlb:l.length<=10000:=by have:=hll.out;have:=hbig.out i (by omega);omega
         go_wp2_with fail
         go_at_call 112
         refine HIn2.out.mono ?_;rintro e w3 ⟨⟨v,rfl,zz,hzz,hz1,hz2,hz3⟩,hC3⟩;unfold zA at hzz;subst hzz;have hL3:=zI (hL.out.later hC3);have C3:=zI (Ct CR.out hC3);have hzt:=zI hz1;have hzb:zz.cl.length<=p+2/\zz.gl.length<=p+2:=⟨by omega,by omega⟩;replace hzb:=zI hzb;clear hz1 hz2 hz3 hC3 e0 e1;by_cases hip:i < p
         ·have dip:decide ((i:Int) < (p:Int))=true:=by rw[dT];omega
          have dipN:decide (i < p)=true:=by rw[dT];omega
          obtain ⟨x,hx⟩:∃ x,z.gl[i]?=some x:=⟨_,gG (by rw[hgl0.out];exact hip)⟩;replace hx:=zI hx;go_wp2_with (at_builtin;refine wpList_append_own _ rfl (.tmp 80) (.tmp 86) 138 rfl w1.heap.size 88 i8 _ 2 48 Tryz.underlying138 hi8 z80 z81 z82 rfl (by omega) u9 l.length (l.flatMap zC) rfl (by exact hL3.out.own.alloc _) ⟨w3.heap.size,0,none⟩ 1 1 (zC zz) rfl rfl (by exact all_new (Blk.new w3 88 #[.slice zz.cA zz.cl.length zz.cC,.slice zz.gA zz.gl.length zz.gC])) (zC_one zz) (by unfold maxLen;omega) (by omega) (by have:=C3.out.size;simp;omega) ?_;intro v9 w9 hown9 hg9 hat9;have HL9:=zI (hL3.out.more hzt.out hzb.out.1 hzb.out.2 hown9 hg9);have C9:=zI (hL3.out.chg (Nat.le_refl _) C3.out hg9);clear hown9 hg9 hat9;obtain ⟨e0,e1⟩:=HE.out w9 C9.out;obtain ⟨b0,o0,hA,_,c0⟩:=int_at (HGl.out w9 C9.out) hx.out;rw[hA] at e1;replace hA:=zI hA)
          go_at_call 113
          have HSp2:=zI (HSp.out w9 x);refine HSp2.out.mono ?_;rintro e w10 ⟨⟨v,rfl,sl,hsl,hsr,hOs⟩,hC10⟩;obtain ⟨As,cs,rfl,-,-⟩:=own_slice hOs;have hRs:=zI (own_rdN hOs);have hBs:=zI (fun (ad:Addr) (h:As=some ad)=>show ∃ cur,Blk w10 ad.block 62 cur by subst h;exact own_blk hOs (g:=ad.block) rfl);have C10:=zI (Ct C9.out hC10);have hL10:=zI (HL9.out.later hC10);have hll3:Hid (sl.length<=KK/\(l++[zz]).length<=K+1+i * (1+KK)+1):=⟨hsl,by have:=hll.out;rw[List.length_append];simp only[List.length_cons,List.length_nil];omega⟩;have hslb:sl.length<=256:=by omega
          have hsr2:=zI hsr;have hS10:Hid (RSp sl As w10):=⟨hRs.out,hBs.out⟩;clear hOs hC10 hsl hsr e0 e1 c0;go_wp2_with fail
          go_loopw [14,9] (fun x v wt=>∃ (k:Nat) (q:List ZC),k<=sl.length/\x=.int .i64 k/\Hid (q.length<=K+1+i * (1+KK)+1+k)/\Hid (ZL wt w1.heap.size v q (p+2) (p+2))/\Hid (Chg (fun _=>False) w1 wt)/\Hid (RSp sl As wt)) (fun x _ _=>sl.length - (intOf x).toNat)
          case atStart=>exact ⟨0,_,Nat.zero_le _,rfl,zI hll3.out.2,hL10,C10,hS10⟩
          case round=>
           rename World=>ws
           obtain ⟨k,q,hk,rfl,hql,hLq,CS,hS⟩:=hrel;by_cases hlk:k < sl.length
           ·obtain ⟨⟨g1,g2⟩,hx⟩:∃ x,sl[k]?=some x:=⟨_,gG hlk⟩;obtain ⟨sb,so,rfl,_,y1,y2⟩:=so_at hS.out.1 hx;have hgr:=hsr2.out _ (List.mem_of_getElem? hx);have HY:Hid (ws.cell? ⟨sb,so+k * 2,none⟩=some (.int .i64 g1)/\ws.cell? ⟨sb,so+k * 2+1,none⟩=some (.int .i64 g2)):=⟨y1,y2⟩;have hqb:q.length<=20000:=by have:=hql.out;have:=hbig.out i (by omega);omega
            have hwi:Hid (IntKind.i64.wrap ((i:Int)+1)=(i:Int)+1):=by show _=_;rw[IntKind.wrap_i64];omega
            have HW:Hid (∀ wz,Chg (fun k=>u9.ownBlock=some k) ws wz->Chg (fun _=>False) w1 wz):=fun wz h=>Chg.trans CS.out h (fun j hj e=>by have:=(hLq.out.own.lt j e).1;omega)
            have HYz:Hid (∀ wz,Chg (fun k=>u9.ownBlock=some k) ws wz->wz.cell? ⟨sb,so+k * 2,none⟩=some (.int .i64 g1)/\wz.cell? ⟨sb,so+k * 2+1,none⟩=some (.int .i64 g2)):=fun wz h=>by
             obtain ⟨y1,y2⟩:=HY.out;obtain ⟨cur,hcur⟩:=hS.out.2 _ rfl;have hbs:u9.ownBlock ≠ some sb:=own_blk_ne hLq.out.own hcur (by decide);exact ⟨(h.cell (World.block_lt_of_cell? _ _ y1) hbs).trans y1,(h.cell (World.block_lt_of_cell? _ _ y2) hbs).trans y2⟩
            have HO2:Hid (∀ wz,Chg (fun k=>u9.ownBlock=some k) ws wz->∀ gb:Nat,Rd wz wz.heap.size (some ⟨gb,0,none⟩) [.int .i64 g1,.int .i64 g2]->Calls Tryz.prog 111 #[.agg #[.slice z.cA (p+1) z.cC,.slice z.gA p z.gC],.int .i64 aa,.int .i64 ((i:Int)+1),.int .i64 r,.int .i64 (i:Int),.slice (some ⟨gb,0,none⟩) 2 2,.int .i64 ((i:Int)+1)] wz fun e w'=>(∃ v,e=.returned v/\ZoN wz.heap.size (p+1+1) (p+1) v w')/\Chg (fun _=>False) wz w'):=fun wz h gb hRg=>HO.out wz (HW.out wz h) ((i:Int)+1) (i:Int) ((i:Int)+1) (some ⟨gb,0,none⟩) 2 (p+1) [g1,g2] ⟨by omega,by omega⟩ ⟨by omega,by omega⟩ ⟨by omega,by omega⟩ hRg (by simp) (by intro x hx;simp at hx;unfold inR;rcases hx with rfl | rfl<;>omega) (by simp;omega)
            clear hx hgr y1 y2;go_wp2_with fail
            refine region_mvk (by kernel_rfl) [some 105,some 106,some 107,some 108,some 109,some 110,some 111,some 112,some 113,some 114,some 115,some 116,some 117,some 118,some 119,some 120,some 121,some 122,some 123,some 124,some 125,some 126,some 127,some 9] [105,106,107,108,109,110,111,112,113,114,115,116,117,118,119,120,121,122,123,124,125,126,127,9] [.is (u9),.is (.agg #[.slice z.cA (p+1) z.cC,.slice z.gA p z.gC]),.is (.int .i64 aa),.is (.int .i64 (i:Int)),.is (.int .i64 ((i:Int)+1)),.is (.int .i64 r),.is (.int .i64 (i:Int)),.is (.slice (some ⟨sb,so,none⟩) sl.length cs),.is (.int .i64 (k:Int)),.is (.pointer (some ⟨sb,so+k * 2,none⟩)),.is (.pointer (some ⟨sb,so+k * 2,none⟩)),.is (.int .i64 g1),.is (.slice (some ⟨sb,so,none⟩) sl.length cs),.is (.int .i64 (k:Int)),.is (.pointer (some ⟨sb,so+k * 2,none⟩)),.is (.pointer (some ⟨sb,so+k * 2+1,none⟩)),.is (.int .i64 g2),.su (fun v w'=>∃ g:Nat,v=.slice (some ⟨g,0,none⟩) 2 2/\ws.heap.size<=g/\Rd w' w'.heap.size (some ⟨g,0,none⟩) [.int .i64 g1,.int .i64 g2]),.is (.int .i64 (i:Int)),.is (.int .i64 ((i:Int)+1)),.su (fun v w'=>∃ zz:ZC,v=.agg (zA zz)/\ZT w' zz/\zz.cl.length<=p+2/\zz.gl.length<=p+2/\(∀ ad,zz.cA=some ad->ws.heap.size<=ad.block)/\∀ ad,zz.gA=some ad->ws.heap.size<=ad.block),.su (fun v w'=>∃ (g:Nat) (zz:ZC),v=.slice (some ⟨g,0,none⟩) 1 1/\ws.heap.size<=g/\Rd w' w'.heap.size (some ⟨g,0,none⟩) (zC zz)/\ZT w' zz/\zz.cl.length<=p+2/\zz.gl.length<=p+2/\(∀ ad,zz.cA=some ad->ws.heap.size<=ad.block)/\∀ ad,zz.gA=some ad->ws.heap.size<=ad.block),.su (fun v w'=>∃ zz:ZC,w'.ownsRow w1.heap.size 88 2 v (q.length+1) (q.flatMap zC++zC zz)/\ZT w' zz/\zz.cl.length<=p+2/\zz.gl.length<=p+2),.su (fun v w'=>∃ zz:ZC,w'.ownsRow w1.heap.size 88 2 v (q.length+1) (q.flatMap zC++zC zz)/\ZT w' zz/\zz.cl.length<=p+2/\zz.gl.length<=p+2)] 22 (fun k=>u9.ownBlock=some k) 23 (by kernel_rfl) (by kernel_rfl) (by kernel_rfl) (by kernel_rfl) ?_ ?_
            ·refine ⟨?_,?_,?_,?_,?_,?_,?_,?_,?_,?_,?_,?_,?_,?_,?_,?_,?_,?_,?_,?_,?_,?_,?_,trivial⟩
             ·intro f a wz _ _ _ _ hp _;have x9:(a.tmps[9]?).getD undef=u9:=(hp 23 9 (by kernel_rfl) rfl).trans rfl;exact mv_is rfl rfl (by simp[execOp,go_sem,x9]) rfl (by simp)
             ·intro f a wz _ hout hC _ _ _;have x3:(a.tmps[3]?).getD undef=.pointer (some ⟨w.heap.size,0,none⟩):=hout 3 (by rfl);exact mv_is rfl rfl (by simp[execOp,go_sem,Result.andThen,x3,HE.out wz (HW.out wz hC)]) rfl (by simp)
             ·intro f a wz _ hout _ _ _ _;have x1:(a.tmps[1]?).getD undef=.int .i64 aa:=hout 1 (by rfl);exact mv_is rfl rfl (by simp[execOp,go_sem,x1]) rfl (by simp)
             ·intro f a wz _ hout _ _ _ _;have x12:(a.tmps[12]?).getD undef=.int .i64 (i:Int):=hout 12 (by rfl);exact mv_is rfl rfl (by simp[execOp,go_sem,x12]) rfl (by simp)
             ·intro f a wz hin _ _ _ _ hd;have x108:(a.tmps[108]?).getD undef=.int .i64 (i:Int):=(hin 108 (by rfl)).trans (hd 3 (by kernel_rfl));exact mv_is rfl rfl (by simp[execOp,go_sem,x108,hwi.out]) rfl (by simp)
             ·intro f a wz _ hout _ _ _ _;have x2:(a.tmps[2]?).getD undef=.int .i64 r:=hout 2 (by rfl);exact mv_is rfl rfl (by simp[execOp,go_sem,x2]) rfl (by simp)
             ·intro f a wz _ hout _ _ _ _;have x12:(a.tmps[12]?).getD undef=.int .i64 (i:Int):=hout 12 (by rfl);exact mv_is rfl rfl (by simp[execOp,go_sem,x12]) rfl (by simp)
             ·intro f a wz _ hout _ _ _ _;have x13:(a.tmps[13]?).getD undef=.slice (some ⟨sb,so,none⟩) sl.length cs:=hout 13 (by rfl);exact mv_is rfl rfl (by simp[execOp,go_sem,x13]) rfl (by simp)
             ·intro f a wz _ hout _ _ _ _;have x14:(a.tmps[14]?).getD undef=.int .i64 (k:Int):=hout 14 (by rfl);exact mv_is rfl rfl (by simp[execOp,go_sem,x14]) rfl (by simp)
             ·intro f a wz hin _ _ _ _ hd;have x112:(a.tmps[112]?).getD undef=.slice (some ⟨sb,so,none⟩) sl.length cs:=(hin 112 (by rfl)).trans (hd 7 (by kernel_rfl));have x113:(a.tmps[113]?).getD undef=.int .i64 (k:Int):=(hin 113 (by rfl)).trans (hd 8 (by kernel_rfl));exact mv_is rfl rfl (by simp[execOp,go_sem,Result.andThen,x112,x113,hlk]) rfl (by simp)
             ·intro f a wz hin _ _ _ _ hd;have x114:(a.tmps[114]?).getD undef=.pointer (some ⟨sb,so+k * 2,none⟩):=(hin 114 (by rfl)).trans (hd 9 (by kernel_rfl));exact mv_is rfl rfl (by simp[execOp,go_sem,Result.andThen,x114]) rfl (by simp)
             ·intro f a wz hin _ hC _ _ hd;have x115:(a.tmps[115]?).getD undef=.pointer (some ⟨sb,so+k * 2,none⟩):=(hin 115 (by rfl)).trans (hd 10 (by kernel_rfl));exact mv_is rfl rfl (by simp[execOp,go_sem,Result.andThen,x115,(HYz.out wz hC).1]) rfl (by simp)
             ·intro f a wz _ hout _ _ _ _;have x13:(a.tmps[13]?).getD undef=.slice (some ⟨sb,so,none⟩) sl.length cs:=hout 13 (by rfl);exact mv_is rfl rfl (by simp[execOp,go_sem,x13]) rfl (by simp)
             ·intro f a wz _ hout _ _ _ _;have x14:(a.tmps[14]?).getD undef=.int .i64 (k:Int):=hout 14 (by rfl);exact mv_is rfl rfl (by simp[execOp,go_sem,x14]) rfl (by simp)
             ·intro f a wz hin _ _ _ _ hd;have x117:(a.tmps[117]?).getD undef=.slice (some ⟨sb,so,none⟩) sl.length cs:=(hin 117 (by rfl)).trans (hd 12 (by kernel_rfl));have x118:(a.tmps[118]?).getD undef=.int .i64 (k:Int):=(hin 118 (by rfl)).trans (hd 13 (by kernel_rfl));exact mv_is rfl rfl (by simp[execOp,go_sem,Result.andThen,x117,x118,hlk]) rfl (by simp)
             ·intro f a wz hin _ _ _ _ hd;have x119:(a.tmps[119]?).getD undef=.pointer (some ⟨sb,so+k * 2,none⟩):=(hin 119 (by rfl)).trans (hd 14 (by kernel_rfl));exact mv_is rfl rfl (by simp[execOp,go_sem,Result.andThen,x119]) rfl (by simp)
             ·intro f a wz hin _ hC _ _ hd;have x120:(a.tmps[120]?).getD undef=.pointer (some ⟨sb,so+k * 2+1,none⟩):=(hin 120 (by rfl)).trans (hd 15 (by kernel_rfl));exact mv_is rfl rfl (by simp[execOp,go_sem,Result.andThen,x120,(HYz.out wz hC).2]) rfl (by simp)
             ·intro f a wz hin _ hC _ _ hd;have x116:(a.tmps[116]?).getD undef=.int .i64 g1:=(hin 116 (by rfl)).trans (hd 11 (by kernel_rfl));have x121:(a.tmps[121]?).getD undef=.int .i64 g2:=(hin 121 (by rfl)).trans (hd 16 (by kernel_rfl));exact mv_su rfl rfl (run_lit2 (P:=Tryz.prog) Tryz.underlying52 hi3 z31 z30 x116 x121 _ rfl) rfl ⟨_,rfl,hC.size,rd_lit wz #[.int .i64 g1,.int .i64 g2] 3⟩ ((Chg.refl _ _).alloc _) (by simp)
             ·intro f a wz _ hout _ _ _ _;have x12:(a.tmps[12]?).getD undef=.int .i64 (i:Int):=hout 12 (by rfl);exact mv_is rfl rfl (by simp[execOp,go_sem,x12]) rfl (by simp)
             ·intro f a wz hin _ _ _ _ hd;have x123:(a.tmps[123]?).getD undef=.int .i64 (i:Int):=(hin 123 (by rfl)).trans (hd 18 (by kernel_rfl));exact mv_is rfl rfl (by simp[execOp,go_sem,x123,hwi.out]) rfl (by simp)
             ·intro f a wz hin _ hC _ _ hd;have x106:(a.tmps[106]?).getD undef=.agg #[.slice z.cA (p+1) z.cC,.slice z.gA p z.gC]:=(hin 106 (by rfl)).trans (hd 1 (by kernel_rfl));have x107:(a.tmps[107]?).getD undef=.int .i64 aa:=(hin 107 (by rfl)).trans (hd 2 (by kernel_rfl));have x109:(a.tmps[109]?).getD undef=.int .i64 ((i:Int)+1):=(hin 109 (by rfl)).trans (hd 4 (by kernel_rfl));have x110:(a.tmps[110]?).getD undef=.int .i64 r:=(hin 110 (by rfl)).trans (hd 5 (by kernel_rfl));have x111:(a.tmps[111]?).getD undef=.int .i64 (i:Int):=(hin 111 (by rfl)).trans (hd 6 (by kernel_rfl));obtain ⟨v122w,v122c,v122p⟩:=hd 17 (by kernel_rfl);have x122:=hin 122 (by rfl);have x124:(a.tmps[124]?).getD undef=.int .i64 ((i:Int)+1):=(hin 124 (by rfl)).trans (hd 19 (by kernel_rfl));obtain ⟨g,v122e,hg,hRg⟩:=v122p;replace x122:=x122.trans v122e;refine mv_call (f:=111) (args:=#[.agg #[.slice z.cA (p+1) z.cC,.slice z.gA p z.gC],.int .i64 aa,.int .i64 ((i:Int)+1),.int .i64 r,.int .i64 (i:Int),.slice (some ⟨g,0,none⟩) 2 2,.int .i64 ((i:Int)+1)]) rfl rfl (by simp[go_sem,x106,x107,x109,x110,x111,x122,x124]) rfl (by simp) ((HO2.out wz hC g (hRg.far v122c (Nat.le_refl _) (fun ad e _ hz=>by have h9:ad=⟨g,0,none⟩:=by { injection e with e;exact e.symm };rw[h9] at hz;have h8:g < ws.heap.size:=own_lt hLq.out.own _ hz.2;omega))).mono ?_);rintro e w5' ⟨⟨v,rfl,zz,hzz,hz1,hz2,hz3,hz4,hz5⟩,hc⟩;have hsz:=hC.size;exact ⟨_,rfl,⟨zz,hzz,hz1,by omega,by omega,fun ad a=>Nat.le_trans hsz (hz4 ad a),fun ad a=>Nat.le_trans hsz (hz5 ad a)⟩,hc⟩
             ·intro f a wz hin _ hC _ _ hd;obtain ⟨v125w,v125c,v125p⟩:=hd 20 (by kernel_rfl);have x125:=hin 125 (by rfl);obtain ⟨zz,v125e,hz1,hz2,hz3,hz4,hz5⟩:=v125p;replace x125:=x125.trans v125e;unfold zA at x125;have hz1':=hz1.farN v125c (fun k hk=>own_lt hLq.out.own k hk.2) hz4 hz5;exact mv_su rfl rfl (run_litZ (P:=Tryz.prog) Tryz.underlying138 hi8 z81 z80 x125 _ rfl) rfl ⟨_,zz,rfl,hC.size,rd_lit wz #[.slice zz.cA zz.cl.length zz.cC,.slice zz.gA zz.gl.length zz.gC] 88,hz1'.later ((Chg.refl _ _).alloc _),hz2,hz3,hz4,hz5⟩ ((Chg.refl _ _).alloc _) (by simp)
             ·intro f a wz hin _ hC hA _ hd;have x105:(a.tmps[105]?).getD undef=u9:=(hin 105 (by rfl)).trans (hd 0 (by kernel_rfl));obtain ⟨v126w,v126c,v126p⟩:=hd 21 (by kernel_rfl);have x126:=hin 126 (by rfl);obtain ⟨g,zz,v126e,hg,hRg,hz1,hz2,hz3,hz4,hz5⟩:=v126p;have hA':=hA rfl;have hz1':=hz1.farN v126c (fun k hk=>own_lt hLq.out.own k hk.2) hz4 hz5;obtain ⟨v',w',hr',h2,h3⟩:=run_copy (P:=Tryz.prog) wz w1.heap.size 138 138 88 i8 _ 2 48 Tryz.underlying138 hi8 z80 z81 z82 rfl (by omega) u9 q.length (q.flatMap zC) (own_chg hLq.out.own hA' (fun _ _ h=>h)) (some ⟨g,0,none⟩) 1 1 wz.heap.size (zC zz) rfl (hRg.far v126c (Nat.le_refl _) (fun ad e _ hz=>by have h9:ad=⟨g,0,none⟩:=by { injection e with e;exact e.symm };rw[h9] at hz;have h8:g < ws.heap.size:=own_lt hLq.out.own _ hz.2;omega)) (zC_one zz) (by unfold maxLen;omega) (by omega) (by have:=(HW.out wz hC).size;omega);have hcg:Chg (fun k=>u9.ownBlock=some k) wz w':=Chg.grown (Chg.refl _ _) h3 (fun k hk=>.inl hk);exact mv_mv rfl rfl (run_app rfl x105 (x126.trans v126e) hr') rfl ⟨zz,h2,hz1'.farN hcg (fun k hk=>own_lt hLq.out.own k hk) hz4 hz5,hz2,hz3⟩ rfl hcg (by simp)
            ·intro f a' wz ha hin hout hC3 hd;obtain ⟨v127w,v127c,zz2,hown,hzt2,hz2,hz3⟩:=hd 22 (by omega);replace v127c:=v127c.mono (T:=fun _=>False) (fun _ _ h=>h.1 rfl);have x127:=hin 127 (by rfl);have HLn:Hid (ZL wz w1.heap.size (f 127) (q++[zz2]) (p+2) (p+2)):=by
              have hown':wz.ownsRow w1.heap.size 88 2 (f 127) (q.length+1) (q.flatMap zC++zC zz2):=own_chg hown v127c (fun _ _ h=>h);refine ⟨by rw[List.length_append,List.flatMap_append];simpa using hown',fun x hx=>?_⟩;rcases List.mem_append.1 hx with hx | hx
              ·exact hLq.out.chgS hC3 x hx
              ·rw[List.mem_singleton.1 hx];exact ⟨hzt2.later v127c,hz2,hz3⟩
             have CSn:=zI (HW.out wz hC3);have hSn:Hid (RSp sl (some ⟨sb,so,none⟩) wz):=hS.out.far hC3 (fun ad e hs=>by obtain ⟨cur,hcur⟩:=hS.out.2 ad e;exact own_blk_ne hLq.out.own hcur (by decide) hs);refine wpOp_valueD (w':=wz) (v:=f 127) (d:=9) rfl rfl (by simp[execOp,go_sem,x127]) rfl ?_;obtain ⟨v9,hv9⟩:∃ v9,v9=f 127:=⟨_,rfl⟩;rw[<-hv9] at HLn |-;clear hd hC3 hin hout x127 hown hzt2 v127c hv9 HO2 HW HYz HY hwi;subst ha;simp only[putAll,List.setIfInBounds_toArray,List.set_cons_succ,List.set_cons_zero,Act.put];go_wp2_with fail
             go_roundw
             case rel=>exact ⟨k+1,q++[zz2],by omega,by go_num,zI (by have:=hql.out;show _<=_;rw[List.length_append];simp only[List.length_cons,List.length_nil];omega),HLn,CSn,hSn⟩
             case measure=>(simp[intOf]<;>omega)
           ·obtain rfl:k=sl.length:=by omega
            have hfl:Hid (q.length<=K+1+(i+1) * (1+KK)):=by have:=hql.out;have:=hll3.out.1;show _<=_;rw[hmul.out];omega
            have CZ:=CS;go_wp2_with fail
            go_roundw
            case rel=>exact ⟨i+1,q,by omega,by go_num,hfl,hLq,CZ⟩
            case measure=>(simp[intOf]<;>omega)
         ·obtain rfl:i=p:=by omega
          have dip:decide ((i:Int) < (i:Int))=false:=by rw[dF];omega
          have dipN:decide (i < i)=false:=by rw[dF];omega
          have hfl:Hid ((l++[zz]).length<=K+1+(i+1) * (1+KK)):=by have:=hll.out;show _<=_;rw[hmul.out,List.length_append];simp only[List.length_cons,List.length_nil];omega
          obtain ⟨e0,e1⟩:=HE.out w3 C3.out;go_wp2_with (at_builtin;refine wpList_append_own _ rfl (.tmp 80) (.tmp 86) 138 rfl w1.heap.size 88 i8 _ 2 48 Tryz.underlying138 hi8 z80 z81 z82 rfl (by omega) u9 l.length (l.flatMap zC) rfl (by exact hL3.out.own.alloc _) ⟨w3.heap.size,0,none⟩ 1 1 (zC zz) rfl rfl (by exact all_new (Blk.new w3 88 #[.slice zz.cA zz.cl.length zz.cC,.slice zz.gA zz.gl.length zz.gC])) (zC_one zz) (by unfold maxLen;omega) (by omega) (by have:=C3.out.size;simp;omega) ?_;intro v9 w9 hown9 hg9 hat9;have HL9:=zI (hL3.out.more hzt.out hzb.out.1 hzb.out.2 hown9 hg9);have C9:=zI (hL3.out.chg (Nat.le_refl _) C3.out hg9);clear hown9 hg9 hat9)
          go_roundw
          case rel=>exact ⟨i+1,l++[zz],by omega,by go_num,hfl,HL9,C9⟩
          case measure=>(simp[intOf]<;>omega)
        ·obtain rfl:i=p+1:=by omega
         have hllB:Hid (l.length<=K+1+14 * (1+KK)):=by have:=hll.out;have:=hbig.out (p+1) (by omega);show _<=_;omega
         clear hll;rw[show ((p+1:Nat):Int)=(p:Int)+1 from rfl];go_wp2_with fail
         go_loopw [15,9] (fun x v wr=>∃ (g:Nat) (q:List ZC),g<=K+1/\x=.int .i64 g/\Hid (q.length<=K+1+14 * (1+KK)+g)/\Hid (ZL wr w1.heap.size v q (p+2) (p+2))/\Hid (Chg (fun _=>False) w1 wr)) (fun x _ _=>K+1 - (intOf x).toNat)
         case atStart=>exact ⟨0,l,Nat.zero_le _,rfl,zI hllB.out,hL,CR⟩
         case round=>
          obtain ⟨g,l,hg,rfl,hll,hL,CR⟩:=hrel;by_cases hlt:g<=K
          ·have dg:decide ((g:Int)<=(K:Int))=true:=by rw[dT];omega
           have dgN:decide (g<=K)=true:=by rw[dT];omega
           obtain ⟨e0,e1⟩:=HE.out wr CR.out;have C2:Hid (Chg (fun _=>False) w1 (wr.alloc (.cells #[.int .i64 (g:Int)] 3))):=CR.out.alloc _;obtain ⟨e0',e1'⟩:=HE.out _ C2.out;have HO1:Hid (Calls Tryz.prog 111 #[.agg #[.slice z.cA (p+1) z.cC,.slice z.gA p z.gC],.int .i64 aa,.int .i64 ((p:Int)+1),.int .i64 r,.int .i64 (p:Int),.slice (some ⟨wr.heap.size,0,none⟩) 1 1,.int .i64 (p:Int)] (wr.alloc (.cells #[.int .i64 (g:Int)] 3)) fun e w'=>(∃ v,e=.returned v/\ZoN (wr.alloc (.cells #[.int .i64 (g:Int)] 3)).heap.size (p+1+1) (p+1) v w')/\Chg (fun _=>False) (wr.alloc (.cells #[.int .i64 (g:Int)] 3)) w'):=HO.out _ C2.out ((p:Int)+1) p p (some ⟨wr.heap.size,0,none⟩) 1 (p+1) [(g:Int)] ⟨by omega,by omega⟩ ⟨by omega,by omega⟩ ⟨by omega,by omega⟩ (own_rdlit wr g) (by simp) (by intro x hx;rw[List.mem_singleton.1 hx];unfold inR;omega) (by simp);have hlb:l.length<=10000:=by have:=hll.out;omega
           go_wp2_with fail
           go_at_call 111
           refine HO1.out.mono ?_;rintro e w3 ⟨⟨v,rfl,zz,hzz,hz1,hz2,hz3,-⟩,hC3⟩;unfold zA at hzz;subst hzz;have hL3:=zI ((hL.out.later ((Chg.refl _ _).alloc _)).later hC3);have C3:=zI (Ct C2.out hC3);have hzt:=zI hz1;have hzb:zz.cl.length<=p+2/\zz.gl.length<=p+2:=⟨by omega,by omega⟩;replace hzb:=zI hzb;clear hz1 hz2 hz3 hC3 e0 e1 e0' e1';go_wp2_with (at_builtin;refine wpList_append_own _ rfl (.tmp 133) (.tmp 145) 138 rfl w1.heap.size 88 i8 _ 2 48 Tryz.underlying138 hi8 z80 z81 z82 rfl (by omega) u9 l.length (l.flatMap zC) rfl (by exact hL3.out.own.alloc _) ⟨w3.heap.size,0,none⟩ 1 1 (zC zz) rfl rfl (by exact all_new (Blk.new w3 88 #[.slice zz.cA zz.cl.length zz.cC,.slice zz.gA zz.gl.length zz.gC])) (zC_one zz) (by unfold maxLen;omega) (by omega) (by have:=C3.out.size;simp;omega) ?_;intro v9 w9 hown9 hg9 hat9;have HL9:=zI (hL3.out.more hzt.out hzb.out.1 hzb.out.2 hown9 hg9);have C9:=zI (hL3.out.chg (Nat.le_refl _) C3.out hg9);clear hown9 hg9 hat9)
           go_roundw
           case rel=>exact ⟨g+1,l++[zz],by omega,by go_num,zI (by have:=hll.out;show _<=_;rw[List.length_append];simp only[List.length_cons,List.length_nil];omega),HL9,C9⟩
           case measure=>(simp[intOf]<;>omega)
          ·obtain rfl:g=K+1:=by omega
           have dg:decide (((K:Int)+1)<=(K:Int))=false:=by rw[dF];omega
           have dg2:decide (((K+1:Nat):Int)<=(K:Int))=false:=by rw[dF];omega
           have dgN:decide (K+1<=K)=false:=by rw[dF];omega
           have hfin:Hid (ZsR w (puB r) (p+1+1) (p+1+1) u9 wr):=⟨l,hL.out.less (by omega),by have:=hll.out;rw[hpu.out];omega⟩;go_wp2
           go_ret;exact ⟨⟨_,rfl,hfin.out⟩,Ct C0.out CR.out⟩
end
end Go.Proofs.YthohgagkjnbkbaaGreat
