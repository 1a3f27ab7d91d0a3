/- FragTrue, part 40: FrZp RgRank. Each theorem says what a function does, or a plain fact, under its own premises alone. -/
import Derived.Test.YthohgagkjnbkbaaGreatP29
set_option maxRecDepth 100000
set_option maxHeartbeats 16000000
namespace Go.Proofs.YthohgagkjnbkbaaGreat
section
open Go.RowKit
def frI:Nm.Inst:=⟨1,0,0,0,0,0,0⟩
theorem guC_one (x:GuC):∀ u ∈ guC x,u.oneCell'=true:=fun u hu=>by
 simp[guC] at hu;rcases hu with rfl | rfl | rfl<;>rfl
theorem miC_one (x:MiC):∀ u ∈ miC x,u.oneCell'=true:=fun u hu=>by
 simp[miC] at hu;rcases hu with rfl | rfl | rfl | rfl | rfl<;>rfl
theorem gu_info:(Tryz.prog.info? 69).map (fun i=>(i.zero,i.size,i.bytes))=some (some (.agg #[.int .i64 0,.int .i64 0,.slice none 0 0]),3,40):=by kernel_rfl
theorem mi_info:(Tryz.prog.info? 71).map (fun i=>(i.zero,i.size,i.bytes))=some (some (.agg #[.string ⟨#[]⟩,.int .i64 0,.int .i64 0,.slice none 0 0,.bool false]),5,64):=by kernel_rfl
def FrL (w:World) (il:Nat) (ia:Option Addr):Prop:=il=1/\∃ g,ia=some ⟨g,0,none⟩/\Blk w g 83 (iA frI)
theorem FrL.chg {S:Nat->Prop} {w w':World} {il:Nat} {ia:Option Addr} (h:FrL w il ia) (hc:Chg S w w') (hS:∀ k,S k->k < w.heap.size->∃ t cur,Blk w k t cur/\t ≠ 83):FrL w' il ia:=by
 obtain ⟨h1,g,h2,h3⟩:=h;exact ⟨h1,g,h2,h3.chg hc (fun hs=>by obtain ⟨t,cur,hb,hne⟩:=hS g hs h3.lt;exact hne (blk_ty hb h3))⟩
theorem FrL.rd {w:World} {il:Nat} {ia:Option Addr} (h:FrL w il ia):il=([frI]:List Nm.Inst).length/\([frI]:List Nm.Inst).length<=100/\Rd w w.heap.size ia (([frI]:List Nm.Inst).flatMap instV7):=by
 obtain ⟨h1,g,rfl,h3⟩:=h;have e:[frI].flatMap instV7=instV7 frI:=by simp
 refine ⟨h1,by simp,?_⟩;rw[e];exact fun _=>⟨_,rfl,h3.lt,all_new h3⟩
structure GuL (w:World) (B:Nat) (v:Value) (l:List GuC):Prop where
 own:w.ownsRow B 69 3 v l.length (l.flatMap guC)
 each:∀ x ∈ l,FrL w x.il x.ia
theorem GuL.nil (w:World) (B:Nat):GuL w B (.slice none 0 0) []:=⟨World.ownsRow_nil _ _ _ _,fun z h=>by simp at h⟩
theorem GuL.later {w w':World} {B:Nat} {v:Value} {l:List GuC} (h:GuL w B v l) (hc:Chg (fun _=>False) w w'):GuL w' B v l:=⟨own_chg h.own hc (fun _ _ h=>h),fun z hz=>(h.each z hz).chg hc (fun _ h=>h.elim)⟩
theorem GuL.far {S:Nat->Prop} {w w':World} {B:Nat} {v:Value} {l:List GuC} (h:GuL w B v l) (hc:Chg S w w') (hS:∀ k,S k->k < w.heap.size->∃ t cur,Blk w k t cur/\t ≠ 83/\t ≠ 69):GuL w' B v l:=
 ⟨own_chg h.own hc (fun g hg hs=>by
  obtain ⟨cur,hb⟩:=own_blk h.own hg;obtain ⟨t,cur',hb',_,h2⟩:=hS g hs hb.lt;exact h2 (blk_ty hb' hb)),fun z hz=>(h.each z hz).chg hc (fun k hk hl=>let ⟨t,cur,hb,h1,_⟩:=hS k hk hl;⟨t,cur,hb,h1⟩)⟩
theorem GuL.more {wa w':World} {B:Nat} {v v':Value} {l:List GuC} {z:GuC} (h:GuL wa B v l) (hz:FrL wa z.il z.ia) (ho:w'.ownsRow B 69 3 v' (l.length+1) (l.flatMap guC++guC z)) (hg:wa.grownBy w' v.ownBlock):GuL w' B v' (l++[z]):=by
 have hc:Chg (fun k=>v.ownBlock=some k) wa w':=Chg.grown (Chg.refl _ wa) hg (fun k hk=>.inl hk);have hS:∀ k,v.ownBlock=some k->k < wa.heap.size->∃ t cur,Blk wa k t cur/\t ≠ 83:=fun k hk _=>let ⟨cur,hb⟩:=own_blk h.own hk;⟨69,cur,hb,by decide⟩
 refine ⟨by rw[List.length_append,List.flatMap_append];simpa using ho,fun x hx=>?_⟩;rcases List.mem_append.1 hx with hx | hx
 ·exact (h.each x hx).chg hc hS
 ·rw[List.mem_singleton.1 hx];exact hz.chg hc hS
structure MiL (w:World) (B:Nat) (v:Value) (l:List MiC):Prop where
 own:w.ownsRow B 71 5 v l.length (l.flatMap miC)
 each:∀ x ∈ l,FrL w x.il x.ia
theorem MiL.nil (w:World) (B:Nat):MiL w B (.slice none 0 0) []:=⟨World.ownsRow_nil _ _ _ _,fun z h=>by simp at h⟩
theorem MiL.later {w w':World} {B:Nat} {v:Value} {l:List MiC} (h:MiL w B v l) (hc:Chg (fun _=>False) w w'):MiL w' B v l:=⟨own_chg h.own hc (fun _ _ h=>h),fun z hz=>(h.each z hz).chg hc (fun _ h=>h.elim)⟩
theorem MiL.far {S:Nat->Prop} {w w':World} {B:Nat} {v:Value} {l:List MiC} (h:MiL w B v l) (hc:Chg S w w') (hS:∀ k,S k->k < w.heap.size->∃ t cur,Blk w k t cur/\t ≠ 83/\t ≠ 71):MiL w' B v l:=
 ⟨own_chg h.own hc (fun g hg hs=>by
  obtain ⟨cur,hb⟩:=own_blk h.own hg;obtain ⟨t,cur',hb',_,h2⟩:=hS g hs hb.lt;exact h2 (blk_ty hb' hb)),fun z hz=>(h.each z hz).chg hc (fun k hk hl=>let ⟨t,cur,hb,h1,_⟩:=hS k hk hl;⟨t,cur,hb,h1⟩)⟩
theorem MiL.more {wa w':World} {B:Nat} {v v':Value} {l:List MiC} {z:MiC} (h:MiL wa B v l) (hz:FrL wa z.il z.ia) (ho:w'.ownsRow B 71 5 v' (l.length+1) (l.flatMap miC++miC z)) (hg:wa.grownBy w' v.ownBlock):MiL w' B v' (l++[z]):=by
 have hc:Chg (fun k=>v.ownBlock=some k) wa w':=Chg.grown (Chg.refl _ wa) hg (fun k hk=>.inl hk);have hS:∀ k,v.ownBlock=some k->k < wa.heap.size->∃ t cur,Blk wa k t cur/\t ≠ 83:=fun k hk _=>let ⟨cur,hb⟩:=own_blk h.own hk;⟨71,cur,hb,by decide⟩
 refine ⟨by rw[List.length_append,List.flatMap_append];simpa using ho,fun x hx=>?_⟩;rcases List.mem_append.1 hx with hx | hx
 ·exact (h.each x hx).chg hc hS
 ·rw[List.mem_singleton.1 hx];exact hz.chg hc hS
theorem blk_st10 {w:World} {z:Nat} {t:TypeId} {cs:Array Value} (hs:cs.size=10) (hb:Blk w z t cs) (v0 v1 v2 v3 v4 v5 v6 v7 v8 v9:Value):Blk ((((((((((w.setCell ⟨z,0,none⟩ v0).setCell ⟨z,1,none⟩ v1).setCell ⟨z,2,none⟩ v2).setCell ⟨z,3,none⟩ v3).setCell ⟨z,4,none⟩ v4).setCell ⟨z,5,none⟩ v5).setCell ⟨z,6,none⟩ v6).setCell ⟨z,7,none⟩ v7).setCell ⟨z,8,none⟩ v8).setCell ⟨z,9,none⟩ v9) z t #[v0,v1,v2,v3,v4,v5,v6,v7,v8,v9]/\Chg (fun k=>k=z) w ((((((((((w.setCell ⟨z,0,none⟩ v0).setCell ⟨z,1,none⟩ v1).setCell ⟨z,2,none⟩ v2).setCell ⟨z,3,none⟩ v3).setCell ⟨z,4,none⟩ v4).setCell ⟨z,5,none⟩ v5).setCell ⟨z,6,none⟩ v6).setCell ⟨z,7,none⟩ v7).setCell ⟨z,8,none⟩ v8).setCell ⟨z,9,none⟩ v9):=by
 constructor
 ·have h:=(((((((((hb.set 0 v0).set 1 v1).set 2 v2).set 3 v3).set 4 v4).set 5 v5).set 6 v6).set 7 v7).set 8 v8).set 9 v9;obtain ⟨l⟩:=cs;rcases l with _ | ⟨a0,_ | ⟨a1,_ | ⟨a2,_ | ⟨a3,_ | ⟨a4,_ | ⟨a5,_ | ⟨a6,_ | ⟨a7,_ | ⟨a8,_ | ⟨a9,_ | ⟨a10,l⟩⟩⟩⟩⟩⟩⟩⟩⟩⟩⟩<;>simp at hs
  simpa using h
 ·exact (((((((((((Chg.refl (fun k=>k=z) w).setCell (p:=⟨z,0,none⟩) (.inl rfl) v0).setCell (p:=⟨z,1,none⟩) (.inl rfl) v1).setCell (p:=⟨z,2,none⟩) (.inl rfl) v2).setCell (p:=⟨z,3,none⟩) (.inl rfl) v3).setCell (p:=⟨z,4,none⟩) (.inl rfl) v4).setCell (p:=⟨z,5,none⟩) (.inl rfl) v5).setCell (p:=⟨z,6,none⟩) (.inl rfl) v6).setCell (p:=⟨z,7,none⟩) (.inl rfl) v7).setCell (p:=⟨z,8,none⟩) (.inl rfl) v8).setCell (p:=⟨z,9,none⟩) (.inl rfl) v9)
def MC.fr (m:MC) (A:Option Addr) (gu:List GuC) (c:Nat) (D:Option Addr) (mi:List MiC) (d:Nat):MC:={ m with aG:=A,gu:=gu,cG:=c,aM:=D,mi:=mi,cM:=d }
def MX.fr (X:MX) (gu:List GuC) (mi:List MiC):MX:={ X with guI:=gu.map fun _=>[frI],miI:=mi.map fun _=>[frI] }
theorem XOK.fr {w:World} {m:MC} {X:MX} {B B' c d:Nat} {A D:Option Addr} {gu:List GuC} {mi:List MiC} (h:XOK w m X) (hg:GuL w B (.slice A gu.length c) gu) (hm:MiL w B' (.slice D mi.length d) mi) (lg:gu.length=m.gu.length) (lm:mi.length=m.mi.length):XOK w (m.fr A gu c D mi d) (X.fr gu mi):=by
 obtain ⟨f1,f2,f3,f4,f5,f6,f7,f8,f9,f10⟩:=h.few;refine ⟨⟨h.mo.ro,h.mo.ev,own_rdN hg.own,own_rdN hm.own,h.mo.so,?_,h.mo.usR⟩,h.stN,h.st,h.evN,h.ev,by simp[MX.fr,MC.fr],?_,by simp[MX.fr,MC.fr],?_,h.ordN,h.ord,h.iniN,h.ini,f1,f2,by simp[MC.fr];omega,by simp[MC.fr];omega,f5,f6,f7,f8,f9,f10⟩
 ·have hl:=h.mo.lens;simp only[MC.fr];rw[lg,lm];exact hl
 ·intro i x l hx hl;simp only[MX.fr,List.getElem?_map,MC.fr] at hx hl;rw[hx] at hl;injection hl with hl;subst hl;exact (hg.each x (List.mem_of_getElem? hx)).rd
 ·intro i x l hx hl;simp only[MX.fr,List.getElem?_map,MC.fr] at hx hl;rw[hx] at hl;injection hl with hl;subst hl;exact (hm.each x (List.mem_of_getElem? hx)).rd
def FreeR (m:MC) (X:MX) (v:Value) (w':World):Prop:=∃ (m':MC) (X':MX),v=.agg (mA m')/\∀ (S:Nat->Prop) (w2:World),Chg S w' w2->XOK w2 m X->(∀ k,S k->k < w'.heap.size->∃ t cur,Blk w' k t cur/\t ≠ 83/\t ≠ 69/\t ≠ 71)->XOK w2 m' X'
theorem free_any (w:World) (m:MC) (X:MX) (hX:XOK w m X):Calls Tryz.prog 89 #[.agg (mA m)] w fun e w'=>(∃ v,e=.returned v/\FreeR m X v w')/\Chg (fun _=>False) w w':=by
 obtain ⟨i69,hi69,z690,z691,z692⟩:=info_3 gu_info;obtain ⟨i71,hi71,z710,z711,z712⟩:=info_3 mi_info;have h1:Blk ((w.alloc (.cells (mA m) 32)).alloc (.cells #[.slice none 0 0,.slice none 0 0,.slice none 0 0,.slice none 0 0,.slice none 0 0,.slice none 0 0,.slice none 0 0,.slice none 0 0,.slice none 0 0,.slice none 0 0] 32)) w.heap.size 32 (mA m):=(Blk.new w 32 (mA m)).alloc _;have h2:Blk ((w.alloc (.cells (mA m) 32)).alloc (.cells #[.slice none 0 0,.slice none 0 0,.slice none 0 0,.slice none 0 0,.slice none 0 0,.slice none 0 0,.slice none 0 0,.slice none 0 0,.slice none 0 0,.slice none 0 0] 32)) (w.heap.size+1) 32 #[.slice none 0 0,.slice none 0 0,.slice none 0 0,.slice none 0 0,.slice none 0 0,.slice none 0 0,.slice none 0 0,.slice none 0 0,.slice none 0 0,.slice none 0 0]:=by have:=Blk.new (w.alloc (.cells (mA m) 32)) 32 #[.slice none 0 0,.slice none 0 0,.slice none 0 0,.slice none 0 0,.slice none 0 0,.slice none 0 0,.slice none 0 0,.slice none 0 0,.slice none 0 0,.slice none 0 0];rwa [show (w.alloc (.cells (mA m) 32)).heap.size=w.heap.size+1 by simp] at this
 have C1:Hid (Chg (fun _=>False) w ((w.alloc (.cells (mA m) 32)).alloc (.cells #[.slice none 0 0,.slice none 0 0,.slice none 0 0,.slice none 0 0,.slice none 0 0,.slice none 0 0,.slice none 0 0,.slice none 0 0,.slice none 0 0,.slice none 0 0] 32))):=((Chg.refl _ _).alloc _).alloc _;obtain ⟨w1,hw1⟩:∃ w1,w1=((w.alloc (.cells (mA m) 32)).alloc (.cells #[.slice none 0 0,.slice none 0 0,.slice none 0 0,.slice none 0 0,.slice none 0 0,.slice none 0 0,.slice none 0 0,.slice none 0 0,.slice none 0 0,.slice none 0 0] 32)):=⟨_,rfl⟩;have hs1:w1.heap.size=w.heap.size+1+1:=by rw[hw1];simp
 rw[<-hw1] at C1 h1 h2;have HM:=zI (fun (w':World) (hc:Chg (fun _=>False) w1 w')=>mcells (h1.chg hc (fun h=>h)));have H1:=zI (fun (w':World) (hc:Chg (fun _=>False) w1 w')=>h1.chg hc (fun h=>h));have H2:=zI (fun (w':World) (hc:Chg (fun _=>False) w1 w')=>h2.chg hc (fun h=>h));have HX:=zI (fun (w':World) (hc:Chg (fun _=>False) w1 w')=>(hX.later C1.out).later hc);have lgu:=hX.few.2.2.1;have lmi:=hX.few.2.2.2.1;clear h1 h2 hX;unfold mA at hw1 |-;go_enter Tryz.func89,Tryz.ntmps89;go_wp2_with fail
 rw[<-hw1];clear hw1;go_loopw [4,3] (fun x v wr=>∃ (k:Nat) (l:List GuC),k<=m.gu.length/\x=.int .i64 k/\Hid (l.length=k)/\Hid (GuL wr w1.heap.size v l)/\Hid (Chg (fun _=>False) w1 wr)) (fun x _ _=>m.gu.length - (intOf x).toNat)
 case atStart=>exact ⟨0,[],Nat.zero_le _,rfl,zI rfl,GuL.nil _ _,Chg.refl _ _⟩
 case round=>
  obtain ⟨k,l,hk,rfl,hln,hL,C⟩:=hrel;have hll:l.length<=100:=by have:=hln.out;omega
  by_cases hlt:k < m.gu.length
  ·obtain ⟨x,hx⟩:∃ x,m.gu[k]?=some x:=⟨_,gG hlt⟩;obtain ⟨b0,o0,hA,_,c0,c1,c2⟩:=guC_at (HX.out wr C.out).mo.gu hx;have e6:wr.cell? ⟨w.heap.size,6,none⟩=some (.slice (some ⟨b0,o0,none⟩) m.gu.length m.cG):=by rw[<-hA];exact (HM.out wr C.out).2.2.2.2.2.2.1
   have hF7:Hid (Blk ((wr.alloc (.cells #[.int .i64 x.stage,.int .i64 x.event,.slice (some ⟨wr.heap.size+1,0,none⟩) 1 1] 69)).alloc (.cells #[.int .i64 1,.int .i64 0,.int .i64 0,.int .i64 0,.int .i64 0,.int .i64 0,.int .i64 0] 83)) (wr.heap.size+1) 83 #[.int .i64 1,.int .i64 0,.int .i64 0,.int .i64 0,.int .i64 0,.int .i64 0,.int .i64 0]):=by have:=Blk.new (wr.alloc (.cells #[.int .i64 x.stage,.int .i64 x.event,.slice (some ⟨wr.heap.size+1,0,none⟩) 1 1] 69)) 83 #[.int .i64 1,.int .i64 0,.int .i64 0,.int .i64 0,.int .i64 0,.int .i64 0,.int .i64 0];rwa [show (wr.alloc (.cells #[.int .i64 x.stage,.int .i64 x.event,.slice (some ⟨wr.heap.size+1,0,none⟩) 1 1] 69)).heap.size=wr.heap.size+1 by simp] at this
   have C7:Hid (Chg (fun _=>False) wr ((wr.alloc (.cells #[.int .i64 x.stage,.int .i64 x.event,.slice (some ⟨wr.heap.size+1,0,none⟩) 1 1] 69)).alloc (.cells #[.int .i64 1,.int .i64 0,.int .i64 0,.int .i64 0,.int .i64 0,.int .i64 0,.int .i64 0] 83))):=((Chg.refl _ wr).alloc _).alloc _;have hs7:((wr.alloc (.cells #[.int .i64 x.stage,.int .i64 x.event,.slice (some ⟨wr.heap.size+1,0,none⟩) 1 1] 69)).alloc (.cells #[.int .i64 1,.int .i64 0,.int .i64 0,.int .i64 0,.int .i64 0,.int .i64 0,.int .i64 0] 83)).heap.size=wr.heap.size+1+1:=by simp
   obtain ⟨A',c',rfl,hc1,hc2⟩:=own_slice hL.out.own;replace hc1:=zI hc1;replace hc2:=zI hc2;replace hA:=zI hA;have hL7:=zI (hL.out.later C7.out);have hC7:=zI (Ct C.out C7.out);clear hx;go_wp2_with (
    at_builtin
    refine wpList_append_lies _ rfl (.tmp 24) (.tmp 26) 27 rfl w1.heap.size 69 i69 _ 3 40 Tryz.underlying27 hi69 z690 z691 z692 rfl (by omega) (.slice A' l.length c') l.length (l.flatMap guC) rfl (by exact hL7.out.own.alloc _) ⟨wr.heap.size+1+1,0,none⟩ 1 1 (guC { x with ia:=some ⟨wr.heap.size+1,0,none⟩,il:=1,ic:=1 }) rfl rfl (by have h9:=Blk.new ((wr.alloc (.cells #[.int .i64 x.stage,.int .i64 x.event,.slice (some ⟨wr.heap.size+1,0,none⟩) 1 1] 69)).alloc (.cells #[.int .i64 1,.int .i64 0,.int .i64 0,.int .i64 0,.int .i64 0,.int .i64 0,.int .i64 0] 83)) 69 #[.int .i64 x.stage,.int .i64 x.event,.slice (some ⟨wr.heap.size+1,0,none⟩) 1 1];rw[hs7] at h9;exact all_new h9) (guC_one _) (by omega) (by unfold maxLen;omega) (by omega) (by have:=hC7.out.size;rw[hs7] at this;simp;omega) (wr.heap.size+1+1+1) (by simp) ?_;intro g9 c9 w9 hown9 hg9 hat9 hlt9;have hL9:=zI ((hL7.out.later ((Chg.refl _ _).alloc (.cells #[.int .i64 x.stage,.int .i64 x.event,.slice (some ⟨wr.heap.size+1,0,none⟩) 1 1] 69))).more (z:={ x with ia:=some ⟨wr.heap.size+1,0,none⟩,il:=1,ic:=1 }) (FrL.chg (S:=fun _=>False) ⟨rfl,_,rfl,hF7.out⟩ ((Chg.refl _ _).alloc (.cells #[.int .i64 x.stage,.int .i64 x.event,.slice (some ⟨wr.heap.size+1,0,none⟩) 1 1] 69)) (fun _ h=>h.elim)) hown9 hg9);have C9:Hid (Chg (fun _=>False) w1 w9):=Chg.trans (hC7.out.alloc (.cells #[.int .i64 x.stage,.int .i64 x.event,.slice (some ⟨wr.heap.size+1,0,none⟩) 1 1] 69)) (Chg.grown (S:=fun k=>(Value.slice A' l.length c').ownBlock=some k) (Chg.refl _ _) hg9 (fun k hk=>.inl hk)) (fun i hi e=>by have:=(hL7.out.own.lt i e).1;omega);clear hown9 hg9 hat9 hlt9)
   go_roundw
   case rel=>exact ⟨k+1,l++[{ x with ia:=some ⟨wr.heap.size+1,0,none⟩,il:=1,ic:=1 }],by omega,by go_num,by rw[List.length_append,hln.out];rfl,hL9,C9⟩
   case measure=>(simp[intOf]<;>omega)
  ·obtain rfl:k=m.gu.length:=by omega
   have e6:=(HM.out wr C.out).2.2.2.2.2.2.1;obtain ⟨A,c,rfl,-,-⟩:=own_slice hL.out.own;have HG:=zI (fun (w':World) (h:Chg (fun _=>False) wr w')=>hL.out.later h);have CR:=zI (fun (w':World) (h:Chg (fun _=>False) wr w')=>(Ct C.out h:Chg (fun _=>False) w1 w'));have hlg:=zI hln.out;obtain ⟨gl,hgl⟩:∃ gl,gl=l:=⟨_,rfl⟩;rw[<-hgl] at HG hlg hll |-;clear hL hln hgl;go_wp2_with fail
   clear e6;go_loopw [7,6] (fun x v wq=>∃ (k:Nat) (l:List MiC),k<=m.mi.length/\x=.int .i64 k/\Hid (l.length=k)/\Hid (MiL wq wr.heap.size v l)/\Hid (Chg (fun _=>False) wr wq)) (fun x _ _=>m.mi.length - (intOf x).toNat)
   case atStart=>exact ⟨0,[],Nat.zero_le _,rfl,zI rfl,MiL.nil _ _,Chg.refl _ _⟩
   case round=>
    rename World=>wq
    obtain ⟨k,l,hk,rfl,hln,hL,Cq⟩:=hrel;have C:=zI (CR.out wq Cq.out);have hll:l.length<=100:=by have:=hln.out;omega
    by_cases hlt:k < m.mi.length
    ·obtain ⟨x,hx⟩:∃ x,m.mi[k]?=some x:=⟨_,gG hlt⟩;obtain ⟨b0,o0,hA,_,c0,c1,c2,c3,c4⟩:=miC_at (HX.out wq C.out).mo.mi hx;have e6:wq.cell? ⟨w.heap.size,7,none⟩=some (.slice (some ⟨b0,o0,none⟩) m.mi.length m.cM):=by rw[<-hA];exact (HM.out wq C.out).2.2.2.2.2.2.2.1
     have hF7:Hid (Blk ((wq.alloc (.cells #[.string x.nm,.int .i64 x.stage,.int .i64 x.event,.slice (some ⟨wq.heap.size+1,0,none⟩) 1 1,.bool x.fin] 71)).alloc (.cells #[.int .i64 1,.int .i64 0,.int .i64 0,.int .i64 0,.int .i64 0,.int .i64 0,.int .i64 0] 83)) (wq.heap.size+1) 83 #[.int .i64 1,.int .i64 0,.int .i64 0,.int .i64 0,.int .i64 0,.int .i64 0,.int .i64 0]):=by have:=Blk.new (wq.alloc (.cells #[.string x.nm,.int .i64 x.stage,.int .i64 x.event,.slice (some ⟨wq.heap.size+1,0,none⟩) 1 1,.bool x.fin] 71)) 83 #[.int .i64 1,.int .i64 0,.int .i64 0,.int .i64 0,.int .i64 0,.int .i64 0,.int .i64 0];rwa [show (wq.alloc (.cells #[.string x.nm,.int .i64 x.stage,.int .i64 x.event,.slice (some ⟨wq.heap.size+1,0,none⟩) 1 1,.bool x.fin] 71)).heap.size=wq.heap.size+1 by simp] at this
     have C7:Hid (Chg (fun _=>False) wq ((wq.alloc (.cells #[.string x.nm,.int .i64 x.stage,.int .i64 x.event,.slice (some ⟨wq.heap.size+1,0,none⟩) 1 1,.bool x.fin] 71)).alloc (.cells #[.int .i64 1,.int .i64 0,.int .i64 0,.int .i64 0,.int .i64 0,.int .i64 0,.int .i64 0] 83))):=((Chg.refl _ wq).alloc _).alloc _;have hs7:((wq.alloc (.cells #[.string x.nm,.int .i64 x.stage,.int .i64 x.event,.slice (some ⟨wq.heap.size+1,0,none⟩) 1 1,.bool x.fin] 71)).alloc (.cells #[.int .i64 1,.int .i64 0,.int .i64 0,.int .i64 0,.int .i64 0,.int .i64 0,.int .i64 0] 83)).heap.size=wq.heap.size+1+1:=by simp
     obtain ⟨A',c',rfl,hc1,hc2⟩:=own_slice hL.out.own;replace hc1:=zI hc1;replace hc2:=zI hc2;replace hA:=zI hA;have hL7:=zI (hL.out.later C7.out);have hC7:=zI (Ct C.out C7.out);clear hx;go_wp2_with (
      at_builtin
      refine wpList_append_lies _ rfl (.tmp 43) (.tmp 45) 28 rfl wr.heap.size 71 i71 _ 5 64 Tryz.underlying28 hi71 z710 z711 z712 rfl (by omega) (.slice A' l.length c') l.length (l.flatMap miC) rfl (by exact hL7.out.own.alloc _) ⟨wq.heap.size+1+1,0,none⟩ 1 1 (miC { x with ia:=some ⟨wq.heap.size+1,0,none⟩,il:=1,ic:=1 }) rfl rfl (by have h9:=Blk.new ((wq.alloc (.cells #[.string x.nm,.int .i64 x.stage,.int .i64 x.event,.slice (some ⟨wq.heap.size+1,0,none⟩) 1 1,.bool x.fin] 71)).alloc (.cells #[.int .i64 1,.int .i64 0,.int .i64 0,.int .i64 0,.int .i64 0,.int .i64 0,.int .i64 0] 83)) 71 #[.string x.nm,.int .i64 x.stage,.int .i64 x.event,.slice (some ⟨wq.heap.size+1,0,none⟩) 1 1,.bool x.fin];rw[hs7] at h9;exact all_new h9) (miC_one _) (by omega) (by unfold maxLen;omega) (by omega) (by have:=(Ct Cq.out C7.out).size;rw[hs7] at this;simp;omega) (wq.heap.size+1+1+1) (by simp) ?_;intro g9 c9 w9 hown9 hg9 hat9 hlt9;have hL9:=zI ((hL7.out.later ((Chg.refl _ _).alloc (.cells #[.string x.nm,.int .i64 x.stage,.int .i64 x.event,.slice (some ⟨wq.heap.size+1,0,none⟩) 1 1,.bool x.fin] 71))).more (z:={ x with ia:=some ⟨wq.heap.size+1,0,none⟩,il:=1,ic:=1 }) (FrL.chg (S:=fun _=>False) ⟨rfl,_,rfl,hF7.out⟩ ((Chg.refl _ _).alloc (.cells #[.string x.nm,.int .i64 x.stage,.int .i64 x.event,.slice (some ⟨wq.heap.size+1,0,none⟩) 1 1,.bool x.fin] 71)) (fun _ h=>h.elim)) hown9 hg9);have C9:Hid (Chg (fun _=>False) wr w9):=Chg.trans ((Ct Cq.out C7.out).alloc (.cells #[.string x.nm,.int .i64 x.stage,.int .i64 x.event,.slice (some ⟨wq.heap.size+1,0,none⟩) 1 1,.bool x.fin] 71)) (Chg.grown (S:=fun k=>(Value.slice A' l.length c').ownBlock=some k) (Chg.refl _ _) hg9 (fun k hk=>.inl hk)) (fun i hi e=>by have:=(hL7.out.own.lt i e).1;omega);clear hown9 hg9 hat9 hlt9)
     go_roundw
     case rel=>exact ⟨k+1,l++[{ x with ia:=some ⟨wq.heap.size+1,0,none⟩,il:=1,ic:=1 }],by omega,by go_num,by rw[List.length_append,hln.out];rfl,hL9,C9⟩
     case measure=>(simp[intOf]<;>omega)
    ·obtain rfl:k=m.mi.length:=by omega
     obtain ⟨D,d,rfl,-,-⟩:=own_slice hL.out.own;have B1:=H1.out wq C.out;have B2:=H2.out wq C.out;have p6:=(HM.out wq C.out).2.2.2.2.2.2.1;have p7:=(HM.out wq C.out).2.2.2.2.2.2.2.1;have pf:=B1.frozen;have S1:=B1.set 6 (.slice A gl.length c);have hB:Blk ((wq.setCell ⟨w.heap.size,6,none⟩ (.slice A gl.length c)).setCell ⟨w.heap.size,7,none⟩ (.slice D l.length d)) w.heap.size 32 (mA (m.fr A gl c D l d)):=by have:=S1.set 7 (.slice D l.length d);simpa [mA,MC.fr] using this
     have r7:(wq.setCell ⟨w.heap.size,6,none⟩ (.slice A gl.length c)).cell? ⟨w.heap.size,7,none⟩=some (.slice m.aM m.mi.length m.cM):=by rw[S1.cell];rfl
     have sf:=S1.frozen;obtain ⟨q0,q1,q2,q3,q4,q5,q6,q7,q8,q9⟩:=mcells hB;simp only[MC.fr] at q0 q1 q2 q3 q4 q5 q6 q7 q8 q9;have B2':Blk ((wq.setCell ⟨w.heap.size,6,none⟩ (.slice A gl.length c)).setCell ⟨w.heap.size,7,none⟩ (.slice D l.length d)) (w.heap.size+1) 32 #[.slice none 0 0,.slice none 0 0,.slice none 0 0,.slice none 0 0,.slice none 0 0,.slice none 0 0,.slice none 0 0,.slice none 0 0,.slice none 0 0,.slice none 0 0]:=(B2.far (p:=⟨w.heap.size,6,none⟩) (by show w.heap.size+1 ≠ w.heap.size;omega) _).far (p:=⟨w.heap.size,7,none⟩) (by show w.heap.size+1 ≠ w.heap.size;omega) _;have r0':((wq.setCell ⟨w.heap.size,6,none⟩ (.slice A gl.length c)).setCell ⟨w.heap.size,7,none⟩ (.slice D l.length d)).cell? ⟨w.heap.size+1,0,none⟩=some (.slice none 0 0):=by rw[B2'.cell];rfl
     have r1':((wq.setCell ⟨w.heap.size,6,none⟩ (.slice A gl.length c)).setCell ⟨w.heap.size,7,none⟩ (.slice D l.length d)).cell? ⟨w.heap.size+1,1,none⟩=some (.slice none 0 0):=by rw[B2'.cell];rfl
     have r2':((wq.setCell ⟨w.heap.size,6,none⟩ (.slice A gl.length c)).setCell ⟨w.heap.size,7,none⟩ (.slice D l.length d)).cell? ⟨w.heap.size+1,2,none⟩=some (.slice none 0 0):=by rw[B2'.cell];rfl
     have r3':((wq.setCell ⟨w.heap.size,6,none⟩ (.slice A gl.length c)).setCell ⟨w.heap.size,7,none⟩ (.slice D l.length d)).cell? ⟨w.heap.size+1,3,none⟩=some (.slice none 0 0):=by rw[B2'.cell];rfl
     have r4':((wq.setCell ⟨w.heap.size,6,none⟩ (.slice A gl.length c)).setCell ⟨w.heap.size,7,none⟩ (.slice D l.length d)).cell? ⟨w.heap.size+1,4,none⟩=some (.slice none 0 0):=by rw[B2'.cell];rfl
     have r5':((wq.setCell ⟨w.heap.size,6,none⟩ (.slice A gl.length c)).setCell ⟨w.heap.size,7,none⟩ (.slice D l.length d)).cell? ⟨w.heap.size+1,5,none⟩=some (.slice none 0 0):=by rw[B2'.cell];rfl
     have r6':((wq.setCell ⟨w.heap.size,6,none⟩ (.slice A gl.length c)).setCell ⟨w.heap.size,7,none⟩ (.slice D l.length d)).cell? ⟨w.heap.size+1,6,none⟩=some (.slice none 0 0):=by rw[B2'.cell];rfl
     have r7':((wq.setCell ⟨w.heap.size,6,none⟩ (.slice A gl.length c)).setCell ⟨w.heap.size,7,none⟩ (.slice D l.length d)).cell? ⟨w.heap.size+1,7,none⟩=some (.slice none 0 0):=by rw[B2'.cell];rfl
     have r8':((wq.setCell ⟨w.heap.size,6,none⟩ (.slice A gl.length c)).setCell ⟨w.heap.size,7,none⟩ (.slice D l.length d)).cell? ⟨w.heap.size+1,8,none⟩=some (.slice none 0 0):=by rw[B2'.cell];rfl
     have r9':((wq.setCell ⟨w.heap.size,6,none⟩ (.slice A gl.length c)).setCell ⟨w.heap.size,7,none⟩ (.slice D l.length d)).cell? ⟨w.heap.size+1,9,none⟩=some (.slice none 0 0):=by rw[B2'.cell];rfl
     have rf:=B2'.frozen;have hend:=blk_st10 rfl B2' (.slice m.aA m.nA m.cA) (.slice m.aI m.nI m.cI) (.slice m.aU m.nU m.cU) (.slice m.aR m.ro.length m.cR) (.slice m.aS m.nS m.cS) (.slice m.aE m.ev.length m.cE) (.slice A gl.length c) (.slice D l.length d) (.slice m.aD m.so.length m.cD) (.slice m.aO m.nO m.cO);have hAB:Chg (fun k=>k=w.heap.size\/k=w.heap.size+1) wq ((wq.setCell ⟨w.heap.size,6,none⟩ (.slice A gl.length c)).setCell ⟨w.heap.size,7,none⟩ (.slice D l.length d)):=((Chg.refl _ wq).setCell (p:=⟨w.heap.size,6,none⟩) (.inl (.inl rfl)) _).setCell (p:=⟨w.heap.size,7,none⟩) (.inl (.inl rfl)) _;have hE:=Chg.trans hAB hend.2 (fun i _ e=>.inr e);have CE:=zI (Chg.trans (Ct C1.out C.out) hE (fun i hi e=>by rcases e with e | e<;>omega));have hty:∀ k,(k=w.heap.size\/k=w.heap.size+1)->k < wq.heap.size->∃ t cur,Blk wq k t cur/\t=32:=fun k e _=>by
      rcases e with rfl | rfl
      ·exact ⟨32,_,B1,rfl⟩
      ·exact ⟨32,_,B2,rfl⟩
     have hG2:=(HG.out wq Cq.out).far hE (fun k e h=>let ⟨t,cur,hb,ht⟩:=hty k e h;⟨t,cur,hb,by subst ht;decide,by subst ht;decide⟩);have hL2:=hL.out.far hE (fun k e h=>let ⟨t,cur,hb,ht⟩:=hty k e h;⟨t,cur,hb,by subst ht;decide,by subst ht;decide⟩);have hfin:Hid (FreeR m X (.agg (mA (m.fr A gl c D l d))) _):=⟨_,X.fr gl l,rfl,fun S w2 hc hc0 hS=>XOK.fr hc0 (hG2.far hc (fun k a b=>let ⟨t,cur,hb,h1,h2,_⟩:=hS k a b;⟨t,cur,hb,h1,h2⟩)) (hL2.far hc (fun k a b=>let ⟨t,cur,hb,h1,_,h2⟩:=hS k a b;⟨t,cur,hb,h1,h2⟩)) hlg.out hln.out⟩;have hE1:=zI hend.1;clear hend hAB hE hty hG2 hL2 B2' hB S1 B1 B2;go_wp2
     exact bodyPost_ret (results_cell_row rfl _ _ _ _ _ _ _ rfl hE1.out Tryz.underlying32 rfl (by kernel_rfl)) rfl ⟨⟨_,rfl,hfin.out⟩,CE.out⟩
end
def rankB (ops:Array Oper):Bool:=(List.range ops.size).all fun i=>match ops[i]? with
 | some o=>o.after.all fun e=>!Region.binds .any e || decide (e.on < i)
 | none=>true
section
variable {P:Program} {ops:Array Oper} {Q:Exit->Act->World->Prop} {md:Region.Mode}
theorem rankB_spec (h:rankB ops=true) (i:Nat) (o:Oper) (ho:ops[i]?=some o):∀ e ∈ o.after,Region.binds .any e=true->e.on < i:=by
 intro e he hb;unfold rankB at h;rw[List.all_eq_true] at h;have h1:=h i (List.mem_range.2 (Array.getElem?_eq_some_iff.1 ho).1);rw[ho] at h1;dsimp only at h1;rw[Array.all_eq_true_iff_forall_mem] at h1;have:=h1 e he;rw[hb] at this;simpa using this
theorem ready_listedR {listed:Array Bool} (hlt:∀ (i:Nat) o,ops[i]?=some o->∀ e ∈ o.after,Region.binds md e=true->e.on < i) (hsz:listed.size=ops.size) (hr:Region.ready md ops listed=[]):∀ (n i:Nat),i < n->i < ops.size->listed.getD i false=true
 | n+1,i,hin,hi=>by
  cases hl:listed.getD i false with
  | true=>rfl
  | false=>
   have hm:i ∈ Region.ready md ops listed:=by
    rw[mem_ready];refine ⟨?_,ops[i],Array.getElem?_eq_getElem hi,fun e he hb=>?_⟩
    ·have hil:i < listed.size:=by omega
     simpa [hil] using hl
    ·have h1:=hlt i _ (Array.getElem?_eq_getElem hi) e he hb;exact ready_listedR hlt hsz hr n e.on (by omega) (by omega)
   rw[hr] at hm;cases hm
theorem wpAny_invR (I:Array Bool->Act->World->Prop) (hlt:∀ (i:Nat) o,ops[i]?=some o->∀ e ∈ o.after,Region.binds md e=true->e.on < i)
  (step:∀ listed a w,I listed a w->∀ (i:Nat) o,ops[i]?=some o->listed.getD i true=false->(∀ e ∈ o.after,Region.binds md e=true->listed.getD e.on false=true)->wpOp P ops Q i (I (listed.setIfInBounds i true)) a w)
  (done:∀ listed a w,I listed a w->(∀ i,i < ops.size->listed.getD i false=true)->Q .normal a w):
  ∀ (fuel:Nat) (listed:Array Bool) (a:Act) (w:World),listed.size=ops.size->listed.toList.count false<=fuel->I listed a w->wpAny P md ops Q fuel listed a w:=by
 intro fuel
 induction fuel with
 | zero=>
  intro listed a w hsz hc hI;have hr:Region.ready md ops listed=[]:=by
   rw[List.eq_nil_iff_forall_not_mem];intro j hj;have h1:=(mem_ready.1 hj).1;rw[cnt_none (by omega) j] at h1;cases h1
  exact ⟨hr,done listed a w hI (fun i hi=>ready_listedR hlt hsz hr (i+1) i (by omega) hi)⟩
 | succ fuel ih=>
  intro listed a w hsz hc hI;refine ⟨fun hr=>done listed a w hI (fun i hi=>ready_listedR hlt hsz hr (i+1) i (by omega) hi),fun i hi=>?_⟩;obtain ⟨h0,o,ho,ha⟩:=mem_ready.1 hi;refine wpOp_mono (fun a' w' hI'=>ih _ a' w' (by simpa using hsz) ?_ hI') (step listed a w hI i o ho h0 ha);have hil:i < listed.size:=by
   rcases Nat.lt_or_ge i listed.size with h1 | h1
   ·exact h1
   ·simp[Array.getElem?_eq_none h1] at h0
  have hget:listed.toList[i]?=some false:=by
   rw[Array.getElem?_toList,Array.getElem?_eq_getElem hil];simpa [hil] using h0
  have:=cnt_set listed.toList i hget;rw[Array.toList_setIfInBounds];omega
end
section
variable {P:Program} {ops:Array Oper} {Q:Exit->Act->World->Prop} {t0:Array Value} {w0:World}
theorem region_spR {id:Nat} (hm:P.follows .mixedOrders=true) (L:List (Option Nat)) (ds:List Nat) (SL:List Sp) (Z:Nat->Prop) (hl:rankB ops=true) (hD:dstB ops L ds t0.size=true)
  (steps:Each (St P ops Q L ds SL Z t0 w0) 0 ops.toList) (done:∀ f w,Chg Z w0 w->(∀ i,i < ops.size->spS Z SL i (atF f (L[i]?.join)) w)->Q .normal ⟨putAll t0 ds f,[]⟩ w):(Code.region id ops true).wp P Q ⟨t0,[]⟩ w0:=by
 have hst:∀ (i:Nat) o,ops[i]?=some o->Step P ops Q L ds (spS Z SL) Z t0 w0 i o:=fun i o ho=>by
  have:=Each.get _ 0 i o (Each.mono (fun _ _ h=>h.step hD) _ _ steps) (show ops.toList[i]?=some o by simpa using ho);rwa [Nat.zero_add] at this
 refine wp_region_any hm (wpAny_invR (I:=fun listed a w=>RgI L ds (spS Z SL) Z t0 w0 listed a w) (rankB_spec hl) ?_ ?_ _ _ _ _ (by simp) ?_ ?_)
 ·intro listed a w hI i o ho hu ha;exact step_inv hD (spS_mono Z SL) hst hI ho hu ha
 ·intro listed a w hI hall;obtain ⟨f,rfl,hok⟩:=hI.ex;exact done f w hI.chg (fun i hi=>hok i (hall i hi))
 ·rw[Array.toList_replicate,List.count_replicate_self];exact Nat.le_refl _
 ·refine ⟨⟨fun s=>t0.getD s undef,by rw[putAll_same],fun i h=>?_⟩,(Chg.refl _ _).drew⟩;by_cases hi:i < ops.size<;>simp[hi] at h
end
end Go.Proofs.YthohgagkjnbkbaaGreat
