/- FragTrue, part 39: FrPg. Each theorem says what a function does, or a plain fact, under its own premises alone. -/
import Derived.Test.YthohgagkjnbkbaaGreatP38
set_option maxRecDepth 100000
set_option maxHeartbeats 16000000
namespace Go.Proofs.YthohgagkjnbkbaaGreat
section
open Go.RowKit
section
variable (R:List RowI) (lv:Nm.Inst->List Bool)
def lvA (L:List Nm.Inst) (i:Nat):List Bool:=match L[i]? with
 | some x=>lv x
 | none=>[]
def vl (L:List Nm.Inst) (T:Tr.T):List Bool:=valA R (sg (shp L)) (lvA lv L) T
def FormV (L:List Nm.Inst) (v:List Bool):Prop:=∃ T,Tr.WF (sg (shp L)) T 0 L.length/\vl R lv L T=v
end
section
variable {R:List RowI} {lv:Nm.Inst->List Bool}
theorem sg_same {L K:List Nm.Inst} {i j:Nat} (h:K[j]?=L[i]?):sg (shp K) j=sg (shp L) i:=by
 unfold sg shp;rw[List.getElem?_map,List.getElem?_map,h]
theorem lv_same {L K:List Nm.Inst} {i j:Nat} (h:K[j]?=L[i]?):lvA lv K j=lvA lv L i:=by
 unfold lvA;rw[h]
theorem sub_form {L K:List Nm.Inst} {T:Tr.T} {a p lo hi:Nat} (h:Tr.WF (sg (shp L)) T lo hi) (ha:a<=lo) (hK:∀ i,lo<=i->i < hi->K[i - a+p]?=L[i]?):Tr.WF (sg (shp K)) (mvT a p T) (lo - a+p) (hi - a+p)/\vl R lv K (mvT a p T)=vl R lv L T:=
 ⟨wf_mv h ha fun i h1 h2=>sg_same (hK i h1 h2),val_mv h ha (fun i h1 h2=>sg_same (hK i h1 h2)) fun i h1 h2 _=>lv_same (hK i h1 h2)⟩
theorem fv_leaf {x:Nm.Inst} (hx:Tr.arity x.op=0):FormV R lv [x] (lv x):=by
 refine ⟨.leaf 0,?_,rfl⟩;show 0=0/\1=0+1/\Tr.arity (sg (shp [x]) 0)=0;exact ⟨rfl,rfl,hx⟩
theorem get_app_lt {L K:List Nm.Inst} {i:Nat} (h:i < L.length):(L++K)[i]?=L[i]?:=List.getElem?_append_left h
theorem fv_not {L:List Nm.Inst} {v:List Bool} (h:FormV R lv L v):FormV R lv (L++[opI 15]) (notL v):=by
 obtain ⟨T,hT,rfl⟩:=h;obtain ⟨h1,h2⟩:=sub_form (R:=R) (lv:=lv) (K:=L++[opI 15]) (a:=0) (p:=0) hT (Nat.le_refl _) (fun i _ hi=>get_app_lt hi);have hop:sg (shp (L++[opI 15])) L.length=15:=by
  rw[sg_shp (x:=opI 15) (by rw[List.getElem?_append_right (Nat.le_refl _),Nat.sub_self];rfl)];rfl
 refine ⟨.one L.length (mvT 0 0 T),?_,?_⟩
 ·show (L++[opI 15]).length=L.length+1/\Tr.arity (sg (shp (L++[opI 15])) L.length)=1/\_;refine ⟨by simp,by rw[hop];decide,?_⟩;simpa using h1
 ·show unB R (sg (shp (L++[opI 15])) L.length) (vl R lv (L++[opI 15]) (mvT 0 0 T))=_;rw[hop,h2];rfl
theorem fv_and {L K:List Nm.Inst} {u v:List Bool} (h:FormV R lv L u) (h':FormV R lv K v):FormV R lv (L++K++[opI 16]) (putL 16 u v R.length):=by
 obtain ⟨T,hT,rfl⟩:=h;obtain ⟨S,hS,rfl⟩:=h';obtain ⟨h1,h2⟩:=sub_form (R:=R) (lv:=lv) (K:=L++K++[opI 16]) (a:=0) (p:=0) hT (Nat.le_refl _) (fun i _ hi=>by rw[List.append_assoc];exact get_app_lt hi);obtain ⟨h3,h4⟩:=sub_form (R:=R) (lv:=lv) (K:=L++K++[opI 16]) (a:=0) (p:=L.length) hS (Nat.le_refl _) (fun i _ hi=>by
  rw[List.getElem?_append_left (by rw[List.length_append];omega),List.getElem?_append_right (by omega)];congr 1;omega)
 have hn:(L++K).length=L.length+K.length:=List.length_append;have hop:sg (shp (L++K++[opI 16])) (L++K).length=16:=by
  rw[sg_shp (x:=opI 16) (by rw[List.getElem?_append_right (Nat.le_refl _),Nat.sub_self];rfl)];rfl
 refine ⟨.two (L++K).length (mvT 0 0 T) (mvT 0 L.length S),?_,?_⟩
 ·show (L++K++[opI 16]).length=(L++K).length+1/\Tr.arity (sg (shp (L++K++[opI 16])) (L++K).length)=2/\_;refine ⟨(by simp;omega),by rw[hop];decide,L.length,by simpa using h1,?_⟩;rw[hn,Nat.add_comm L.length K.length];simpa using h3
 ·show biB R (sg (shp (L++K++[opI 16])) (L++K).length) (vl R lv (L++K++[opI 16]) (mvT 0 0 T)) (vl R lv (L++K++[opI 16]) (mvT 0 L.length S))=_;rw[hop,h2,h4];rfl
theorem fv_take {l:List Nm.Inst} {x:Tr.T} {p:Nat} (h:Tr.WF (sg (shp l)) x 0 p) (hp:p<=l.length):FormV R lv (l.take p) (vl R lv l x):=by
 obtain ⟨h1,h2⟩:=sub_form (R:=R) (lv:=lv) (K:=l.take p) (a:=0) (p:=0) h (Nat.le_refl _) (fun i _ hi=>by show (l.take p)[i]?=_;rw[List.getElem?_take,if_pos hi]);exact ⟨_,by rw[List.length_take,Nat.min_eq_left hp];simpa using h1,h2⟩
theorem fv_drop {l:List Nm.Inst} {y:Tr.T} {p a:Nat} (h:Tr.WF (sg (shp l)) y p a) (ha:a<=l.length):FormV R lv ((l.drop p).take (a - p)) (vl R lv l y):=by
 have hlt:=h.lt;obtain ⟨h1,h2⟩:=sub_form (R:=R) (lv:=lv) (K:=(l.drop p).take (a - p)) (a:=p) (p:=0) h (Nat.le_refl _) (fun i hi hj=>by
  show ((l.drop p).take (a - p))[i - p]?=_;rw[List.getElem?_take,if_pos (by omega),List.getElem?_drop];congr 1;omega)
 refine ⟨_,?_,h2⟩;rw[List.length_take,List.length_drop,Nat.min_eq_left (by omega)];simpa using h1
theorem lvA_len (hlv:∀ x,(lv x).length=R.length) {L:List Nm.Inst} {i:Nat} (hi:i < L.length):(lvA lv L i).length=R.length:=by
 unfold lvA;rw[gG hi];exact hlv _
theorem vl_len (hlv:∀ x,(lv x).length=R.length) {L:List Nm.Inst}:∀ {T:Tr.T} {lo hi:Nat},Tr.WF (sg (shp L)) T lo hi->hi<=L.length->(vl R lv L T).length=R.length
 | .leaf a,lo,hi,h,hl=>by simp only[Tr.WF] at h;exact lvA_len hlv (by omega)
 | .one a x,lo,hi,h,hl=>by
  simp only[Tr.WF] at h;exact unB_len (vl_len hlv h.2.2 (by omega))
 | .two a x y,lo,hi,h,hl=>biB_len
theorem root_one {l:List Nm.Inst} {t:Tr.T} {n:Nat} (h:Tr.WF (sg (shp l)) t 0 (n+1)) (ho:Tr.arity (sg (shp l) n)=1):∃ x,t=.one n x/\Tr.WF (sg (shp l)) x 0 n:=by
 cases t with
 | leaf a=>simp only[Tr.WF] at h;obtain ⟨h1,h2,h3⟩:=h;rw[show a=n by omega,ho] at h3;cases h3
 | one a x=>
  simp only[Tr.WF] at h;obtain ⟨h1,h2,h3⟩:=h;obtain rfl:a=n:=by omega
  exact ⟨x,rfl,h3⟩
 | two a x y=>simp only[Tr.WF] at h;obtain ⟨h1,h2,h3⟩:=h;rw[show a=n by omega,ho] at h2;cases h2
theorem root_two {l:List Nm.Inst} {t:Tr.T} {n:Nat} (h:Tr.WF (sg (shp l)) t 0 (n+1)) (ho:Tr.arity (sg (shp l) n)=2):∃ x y p,t=.two n x y/\Tr.WF (sg (shp l)) x 0 p/\Tr.WF (sg (shp l)) y p n:=by
 cases t with
 | leaf a=>simp only[Tr.WF] at h;obtain ⟨h1,h2,h3⟩:=h;rw[show a=n by omega,ho] at h3;cases h3
 | one a x=>simp only[Tr.WF] at h;obtain ⟨h1,h2,h3⟩:=h;rw[show a=n by omega,ho] at h2;cases h2
 | two a x y=>
  simp only[Tr.WF] at h;obtain ⟨h1,h2,p,h3,h4⟩:=h;obtain rfl:a=n:=by omega
  exact ⟨x,y,p,rfl,h3,h4⟩
theorem last_op {l:List Nm.Inst} {k:Nat} (hk:0 < k) (hl:k<=l.length):sg (shp l) (l.length - k)=lastO l k:=by
 rw[sg_shp (x:=l[l.length - k]'(by omega)) (gG (by omega))];exact (lastO_at (gG (by omega))).symm
structure SixR (R:List RowI) (lv:Nm.Inst->List Bool) (l:List Nm.Inst) (f:FgC) (t:Tr.T) (vT vO vI:List Bool):Prop where
 th:f.path=true->FormV R lv f.th vT
 to:f.path=true->FormV R lv f.to vO
 inn:f.lasso=true->FormV R lv f.inn vI
 val:∀ i,i < R.length->(vl R lv l t).getD i false=!((f.path && (euL R vT vO).getD i false) || (f.lasso && (egL R vI).getD i false))
theorem six_all (hR:Inside R) (hlv:∀ x,(lv x).length=R.length) (htt:lv (opI 1)=ttL R) {l:List Nm.Inst} {f:FgC} {t s:Tr.T} (hn:0 < l.length) (h:OfK l f t s):∃ vT vO vI,SixR R lv l f t vT vO vI:=by
 obtain ⟨p,la,aT,th,cT,aO,to,cO,aI,inn,cI⟩:=f;obtain ⟨m,hm⟩:∃ m,l.length=m+1:=⟨l.length - 1,by omega⟩;have hrow:=h.row;have hwf:=h.wf;rw[hm] at hwf;have hfl:(formV l).2=0->(formV l).1 ≠ 15->sg (shp l) m=(formV l).1:=fun h0 h15=>by
  have hl1:=last_op (l:=l) (k:=1) (by omega) (by omega);rw[hm,Nat.add_sub_cancel] at hl1;rw[hl1];unfold formV at h0 h15 |-;by_cases hc:lastO l 1=15/\1 < l.length
  ·rw[if_pos hc] at h15;exact absurd rfl h15
  ·rw[if_neg hc]
 have hf2:(formV l).2 ≠ 0->∃ j,m=j+1/\sg (shp l) m=15/\sg (shp l) j=(formV l).2:=fun h0=>by
  obtain ⟨h15,h1l⟩:=formV_yes h0;have hl1:=last_op (l:=l) (k:=1) (by omega) (by omega);have hl2:=last_op (l:=l) (k:=2) (by omega) (by omega);refine ⟨m - 1,by omega,?_,?_⟩
  ·rw[hm,Nat.add_sub_cancel] at hl1;rw[hl1,h15]
  ·rw[hm,show m+1 - 2=m - 1 by omega] at hl2;rw[hl2];unfold formV;rw[if_pos ⟨h15,h1l⟩]
 have hsel:=h.sel;unfold rowR at hrow;split at hrow
 ·
  rename_i hab;simp only[Prod.mk.injEq] at hab;simp only[fgI,Option.some.injEq,Prod.mk.injEq] at hrow;obtain ⟨rfl,rfl,rfl,rfl,rfl⟩:=hrow;have hop:=hfl hab.2 (by rw[hab.1];decide);rw[hab.1] at hop;obtain ⟨x,rfl,hx⟩:=root_one hwf (by rw[hop];decide);obtain rfl:s=.one m x:=by rcases hsel with ⟨_,e⟩ | ⟨e,_⟩;exact e;exact absurd hab.2 e
  have hX:ptsX (.one m x) l=l.take m:=by show l.take (x.endOf+1)=_;rw[hx.end_]
  rw[hX];refine ⟨ttL R,notL (vl R lv l x),[],fun _=>by rw[<-htt];exact fv_leaf (by decide),fun _=>fv_not (fv_take hx (by omega)),(fun e=>by cases e),fun i hi=>?_⟩;have hv:vl R lv l (.one m x)=notL (euL R (ttL R) (notL (vl R lv l x))):=by
   show unB R (sg (shp l) m) (vl R lv l x)=_;rw[hop];rfl
  rw[hv,six_not hi (euL_len _ _ _)];simp
 ·split at hrow
  ·
   rename_i _ hab;simp only[Prod.mk.injEq] at hab;simp only[fgI,Option.some.injEq,Prod.mk.injEq] at hrow;obtain ⟨rfl,rfl,rfl,rfl,rfl⟩:=hrow;have hop:=hfl hab.2 (by rw[hab.1];decide);rw[hab.1] at hop;obtain ⟨x,rfl,hx⟩:=root_one hwf (by rw[hop];decide);obtain rfl:s=.one m x:=by rcases hsel with ⟨_,e⟩ | ⟨e,_⟩;exact e;exact absurd hab.2 e
   have hX:ptsX (.one m x) l=l.take m:=by show l.take (x.endOf+1)=_;rw[hx.end_]
   rw[hX];refine ⟨[],[],notL (vl R lv l x),(fun e=>by cases e),(fun e=>by cases e),fun _=>fv_not (fv_take hx (by omega)),fun i hi=>?_⟩;have hv:vl R lv l (.one m x)=allL R (ttL R) (vl R lv l x):=by
    show unB R (sg (shp l) m) (vl R lv l x)=_;rw[hop];rfl
   rw[hv,six_af hi hR (vl_len hlv hx (by omega))];simp
  ·split at hrow
   ·
    rename_i _ _ hab;simp only[Prod.mk.injEq] at hab;simp only[fgI,Option.some.injEq,Prod.mk.injEq] at hrow;obtain ⟨rfl,rfl,rfl,rfl,rfl⟩:=hrow;have hop:=hfl hab.2 (by rw[hab.1];decide);rw[hab.1] at hop;obtain ⟨x,y,q,rfl,hx,hy⟩:=root_two hwf (by rw[hop];decide);obtain rfl:s=.two m x y:=by rcases hsel with ⟨_,e⟩ | ⟨e,_⟩;exact e;exact absurd hab.2 e
    have hql:=hy.lt;have hX:ptsX (.two m x y) l=l.take q:=by show l.take (x.endOf+1)=_;rw[hx.end_]
    have hY:ptsY (.two m x y) l=(l.drop q).take (m - q):=by
     show (l.drop (x.endOf+1)).take (y.endOf - x.endOf)=_;have h1:=hx.end_;have h2:=hy.end_;rw[h1,show y.endOf - x.endOf=m - q by omega]
    rw[hX,hY];refine ⟨notL (vl R lv l y),putL 16 (notL (vl R lv l x)) (notL (vl R lv l y)) R.length,notL (vl R lv l y),fun _=>fv_not (fv_drop hy (by omega)),fun _=>fv_and (fv_not (fv_take hx (by omega))) (fv_not (fv_drop hy (by omega))),fun _=>fv_not (fv_drop hy (by omega)),fun i hi=>?_⟩;have hv:vl R lv l (.two m x y)=allL R (vl R lv l x) (vl R lv l y):=by
     show biB R (sg (shp l) m) (vl R lv l x) (vl R lv l y)=_;rw[hop];rfl
    rw[hv,six_au hi hR (vl_len hlv hx (by omega)) (vl_len hlv hy (by omega))];simp
   ·split at hrow
    ·
     rename_i _ _ _ hab;simp only[Prod.mk.injEq] at hab;simp only[fgI,Option.some.injEq,Prod.mk.injEq] at hrow;obtain ⟨rfl,rfl,rfl,rfl,rfl⟩:=hrow;obtain ⟨j,rfl,ho1,ho2⟩:=hf2 (by rw[hab.2];decide);rw[hab.2] at ho2;obtain ⟨s',rfl,hs'⟩:=root_one hwf (by rw[ho1];decide);obtain ⟨x,rfl,hx⟩:=root_one hs' (by rw[ho2];decide);obtain rfl:s=.one j x:=by
      rcases hsel with ⟨e,_⟩ | ⟨_,_,e⟩
      ·rw[hab.2] at e;cases e
      ·injection e with _ e;exact e.symm
     have hX:ptsX (.one j x) l=l.take j:=by show l.take (x.endOf+1)=_;rw[hx.end_]
     rw[hX];refine ⟨ttL R,vl R lv l x,[],fun _=>by rw[<-htt];exact fv_leaf (by decide),fun _=>fv_take hx (by omega),(fun e=>by cases e),fun i hi=>?_⟩;have hv:vl R lv l (.one (j+1) (.one j x))=notL (euL R (ttL R) (vl R lv l x)):=by
      show unB R (sg (shp l) (j+1)) (unB R (sg (shp l) j) (vl R lv l x))=_;rw[ho1,ho2];rfl
     rw[hv,six_not hi (euL_len _ _ _)];simp
    ·split at hrow
     ·
      rename_i _ _ _ _ hab;simp only[Prod.mk.injEq] at hab;simp only[fgI,Option.some.injEq,Prod.mk.injEq] at hrow;obtain ⟨rfl,rfl,rfl,rfl,rfl⟩:=hrow;obtain ⟨j,rfl,ho1,ho2⟩:=hf2 (by rw[hab.2];decide);rw[hab.2] at ho2;obtain ⟨s',rfl,hs'⟩:=root_one hwf (by rw[ho1];decide);obtain ⟨x,rfl,hx⟩:=root_one hs' (by rw[ho2];decide);obtain rfl:s=.one j x:=by
       rcases hsel with ⟨e,_⟩ | ⟨_,_,e⟩
       ·rw[hab.2] at e;cases e
       ·injection e with _ e;exact e.symm
      have hX:ptsX (.one j x) l=l.take j:=by show l.take (x.endOf+1)=_;rw[hx.end_]
      rw[hX];refine ⟨[],[],vl R lv l x,(fun e=>by cases e),(fun e=>by cases e),fun _=>fv_take hx (by omega),fun i hi=>?_⟩;have hv:vl R lv l (.one (j+1) (.one j x))=notL (egL R (vl R lv l x)):=by
       show unB R (sg (shp l) (j+1)) (unB R (sg (shp l) j) (vl R lv l x))=_;rw[ho1,ho2];rfl
      rw[hv,six_not hi (egL_len _ _)];simp
     ·split at hrow
      ·
       rename_i _ _ _ _ _ hab;simp only[Prod.mk.injEq] at hab;simp only[fgI,Option.some.injEq,Prod.mk.injEq] at hrow;obtain ⟨rfl,rfl,rfl,rfl,rfl⟩:=hrow;obtain ⟨j,rfl,ho1,ho2⟩:=hf2 (by rw[hab.2];decide);rw[hab.2] at ho2;obtain ⟨s',rfl,hs'⟩:=root_one hwf (by rw[ho1];decide);obtain ⟨x,y,q,rfl,hx,hy⟩:=root_two hs' (by rw[ho2];decide);obtain rfl:s=.two j x y:=by
        rcases hsel with ⟨e,_⟩ | ⟨_,_,e⟩
        ·rw[hab.2] at e;cases e
        ·injection e with _ e;exact e.symm
       have hql:=hy.lt;have hX:ptsX (.two j x y) l=l.take q:=by show l.take (x.endOf+1)=_;rw[hx.end_]
       have hY:ptsY (.two j x y) l=(l.drop q).take (j - q):=by
        show (l.drop (x.endOf+1)).take (y.endOf - x.endOf)=_;have h1:=hx.end_;have h2:=hy.end_;rw[h1,show y.endOf - x.endOf=j - q by omega]
       rw[hX,hY];refine ⟨vl R lv l x,vl R lv l y,[],fun _=>fv_take hx (by omega),fun _=>fv_drop hy (by omega),(fun e=>by cases e),fun i hi=>?_⟩;have hv:vl R lv l (.one (j+1) (.two j x y))=notL (euL R (vl R lv l x) (vl R lv l y)):=by
        show unB R (sg (shp l) (j+1)) (biB R (sg (shp l) j) (vl R lv l x) (vl R lv l y))=_;rw[ho1,ho2];rfl
       rw[hv,six_not hi (euL_len _ _ _)];simp
      ·cases hrow
end
end
end Go.Proofs.YthohgagkjnbkbaaGreat
