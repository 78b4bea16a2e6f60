/- Chapter 10: what is saved is loaded: instructions, clauses, bodies. -/
import Derived.Test.YtknalmoackcpbaaGreatIm5
set_option maxRecDepth 100000
set_option maxHeartbeats 3200000
set_option linter.all false
open Go Go.AW
namespace Go.Proofs.YtknalmoackcpbaaGreat
namespace Im
open Rg (Cl dH dp je gq)
open Cd (oO kS bE aK cW KN dV)
open Bd (R6 b8 bP zZ vZ lN)
theorem DH {α:Type}[DecidableEq α] (l:List α) (t:α):l<+:jJ l t:=by
 unfold jJ;split
 .exact List.prefix_rfl
 .exact List.prefix_append _ _
theorem Nf {α:Type}[DecidableEq α] (l:List α) (t:α):(jJ l t)[Bo l t]? =some t:=by
 by_cases h:t∈l
 .obtain⟨_,n,j⟩:=DG h;rw[n,List.getElem?_eq_getElem j];have:=List.findIdx_getElem (p:=λo=>decide (o=t)) (xs:=l) (w:=j);simp only[decide_eq_true_eq]at this;exact congrArg some this
 .obtain⟨_,n,j⟩:=DF h;rw[n,j];simp
theorem L4 {α:Type}[DecidableEq α] (l:List α) (t:α):Bo l t<(jJ l t).length:=(List.getElem?_eq_some_iff.1 (Nf l t)).1
theorem uL:∀(l:List dM) (sp:List Ty),sp<+:(ct sp l).1
 |[],sp=>List.prefix_rfl
 |x::r,sp=>by
  simp only[ct];split
  .exact(DH sp x.t).trans (uL r _)
  .exact uL r sp
theorem qw (P:List Int):∀(l:List Cl) (sp:List Ty),sp<+:(gI P sp l).1
 |[],sp=>List.prefix_rfl
 |c::r,sp=>by
  simp only[gI];split
  .exact(DH sp _).trans (qw P r _)
  .exact qw P r sp
theorem qx (P:List Int):∀(l:List Cl) (sp:List Ty),(gI P sp l).2.length=l.length∧(gI P sp l).1.length<=sp.length+l.length
 |[],sp=>⟨rfl,by simp[gI]⟩
 |c::r,sp=>by
  simp only[gI];have j:=lj sp (rr c);split
  .have:=qx P r (jJ sp (rr c));simp only[List.length_cons];omega
  .have:=qx P r sp;simp only[List.length_cons];omega
theorem rS {x:dM}{nt nf nm n:Int}(h:cS x nt nf nm n=true):¬(x.op<1∨75<x.op)∧jf x (oO x.op)=true∧(oO x.op=5->x.arg<n)∧(oO x.op=6->x.arg<nm)∧(oO x.op=7->x.arg<nf)∧(oO x.op=8->j9 x.t nt=true):=by
 unfold cS jT at h;rw[Bool.and_eq_true,decide_eq_true_eq]at h;obtain⟨h1,l⟩:=h;split at h1
 .omega
 rename_i h0;split at h1
 .rename_i j;refine⟨h0,j,?_,?_,?_,?_⟩<;>intro e<;>(change (gZ x.op).2.1= _ at e)<;>simpa[e]using l
 .omega
theorem Kt {x:dM}{nt nf nm n:Int}(h:cS x nt nf nm n=true) (j:¬oO x.op=8):dV x=true:=by obtain⟨h0,h1,_⟩:=rS h;unfold dV;rw[if_neg h0,if_neg j];exact h1
theorem Ks {x:dM}{nt nf nm n:Int}(h:cS x nt nf nm n=true) (j:oO x.op=8):x.arg=0∧cq x.t=true∧j9 x.t nt=true:=by
 obtain⟨h0,h1,_,_,_,o⟩:=rS h;rw[j]at h1;have l:x.arg=0∧cq x.t=true:=by simpa[jf]using h1
 exact⟨l.1,l.2,o j⟩
theorem JR {op k:Int}(h0:¬(op<1∨75<op)) (j:oO op=8) (h1:0<k) (l:k<16384):dV ⟨op,k,kS⟩=true:=by unfold dV;rw[if_neg h0,if_pos j];simp[Cd.HG,h1,l]
theorem uK {nt nf nm n:Int} :∀(l:List dM) (sp:List Ty),(∀x∈l,cS x nt nf nm n=true∧Cd.ez x)->(ct sp l).1.length<16384->
 ∀y∈(ct sp l).2,dV y=true∧(oO y.op=5->y.arg<n)∧Cd.ez y
 |[],sp,_,_ =>by simp[ct]
 |x::r,sp,h,hl=>by
  have q:=h x (List.mem_cons_self ..);have u:∀y∈r,cS y nt nf nm n=true∧Cd.ez y:=λy j=>h y (List.mem_cons_of_mem _ j);have f0:=rS q.1;by_cases o:oO x.op=8
  .simp only[ct,if_pos o]at hl|-;have v:=(uL r (jJ sp x.t)).length_le;have w:=L4 sp x.t;intro y j;rcases List.mem_cons.1 j with rfl|j
   .refine⟨JR f0.1 o (by unfold kU;omega) (by unfold kU;omega),λe=> ?_,?_⟩
    .simp only at e;omega
    .unfold Cd.ez kU;simp only;omega
   .exact uK r _ u hl y j
  .simp only[ct,if_neg o]at hl|-;intro y j;rcases List.mem_cons.1 j with rfl|j
   .exact⟨Kt q.1 o,f0.2.2.1,q.2⟩
   .exact uK r _ u hl y j
theorem Io {l:List dM}(h1:l.length<=160) (q:∀y∈l,dV y=true) (o:∀y∈l,oO y.op=5->y.arg<l.length):(cW l).2=0:=by
 have ha:l.all dV=true:=by simpa using q
 have n:(bE l).2=0:=by unfold bE;rw[if_neg (by omega),if_pos ha]
 have hf:l.any (Cd.fY l.length)=false:=by
  rw[List.any_eq_false];intro y j;by_cases e:oO y.op=5
  .have:=o y j e;simp[Cd.fY];intro _;omega
  .simp[Cd.fY,e]
 unfold cW;rw[if_pos n,hf];rfl
theorem xG {n:Int}{c:Cl}(h:dp n c=0):(1<=c.k∧c.k<=4)∧(0<=c.tf∧c.tf<c.tt∧c.tt<=n)∧(0<=c.hf∧c.hf<c.ht∧c.ht<=n)∧(c.k=2->0<=c.fl∧c.fl<c.hf)∧(¬c.k=2->c.fl= -1):=by
 unfold dp at h;split at h
 .omega
 rename_i h1;split at h
 .omega
 rename_i j;simp only[gq,Bool.or_eq_true,decide_eq_true_eq,Bool.not_eq_true',not_or,Bool.and_eq_true,Bool.and_eq_false_iff,decide_eq_false_iff_not,Decidable.not_not]at h1 j;refine⟨by omega,by omega,by omega,λe=>by omega,λe=>by omega⟩
theorem Dn {P:List Int}(l:P.Pairwise (· < ·)) {a b:Int}(h0:0<=a) (h1:a<b) (n:b<P.length):P.getD a.toNat 0<P.getD b.toNat 0:=by
 have ha:a.toNat<P.length:=by omega
 have j:b.toNat<P.length:=by omega
 rw[List.getD_eq_getElem?_getD,List.getD_eq_getElem?_getD,List.getElem?_eq_getElem ha,List.getElem?_eq_getElem j];exact List.pairwise_iff_getElem.1 l _ _ ha j (by omega)
structure Mj (P:List Int) (n:Nat):Prop where
 up:P.Pairwise (· < ·)
 len:P.length=n+1
 bd:∀y∈P,0<=y∧y<=1440
theorem Mj.get {P:List Int}{n:Nat}(h:Mj P n) (i:Nat):0<=P.getD i 0∧P.getD i 0<=1440:=by
 rw[List.getD_eq_getElem?_getD];by_cases j:i<P.length
 .rw[List.getElem?_eq_getElem j];exact h.bd _ (List.getElem_mem j)
 .rw[List.getElem?_eq_none (by omega)];simp
theorem MP {l:List dM}(h:l.length<=160):Mj (aK l 0) l.length:=
 ⟨Cd.xb l 0,Cd.kz l 0,λy j=>⟨Cd.mj l 0 y j,by have:=Cd.mi l 0 y j;omega⟩⟩
theorem KR {P:List Int}{n:Nat}(h:Mj P n) {c:Cl}(o:dp n c=0):F5 P c:=by
 obtain⟨h1,l,j,q,u⟩:=xG o;have hl:=h.len;refine⟨h1,by omega,by omega,by omega,by omega,λe=>by have:=q e;omega,?_,?_,λi=>by have:=h.get i;omega⟩
 .have:=Dn h.up l.1 l.2.1 (by omega);omega
 .have:=Dn h.up j.1 j.2.1 (by omega);omega
theorem Dw {P:List Int}{n:Nat}(h:Mj P n) {c:Cl}(o:dp n c=0) {ex:Int}(h0:0<=ex) (h1:ex<=65535):zZ { cC P c with ex:=ex } =true:=by obtain⟨F,l,j,E,D⟩:=xG o;have hl:=h.len;have u:=Dn h.up l.1 l.2.1 (by omega);have q:=Dn h.up j.1 j.2.1 (by omega);have A:=h.get c.tf.toNat;have y:=h.get c.tt.toNat;have w:=h.get c.hf.toNat;have v:=h.get c.ht.toNat;simp only[zZ,lN,cC,List.all_cons,List.all_nil,vZ,Bool.and_eq_true,decide_eq_true_eq];refine⟨?_,?_,?_,?_,?_,?_,trivial⟩<;>omega
theorem yi {P:List Int}{n:Nat}(h:Mj P n):∀(l:List Cl) (sp:List Ty),(∀c∈l,dp n c=0)->(gI P sp l).1.length<=65535->(gI P sp l).2.all zZ=true
 |[],sp,_,_ =>by simp[gI]
 |c::r,sp,o,hl=>by
  have h1:=o c (List.mem_cons_self ..);have j:∀y∈r,dp n y=0:=λy q=>o y (List.mem_cons_of_mem _ q);by_cases k1:c.k=1
  .simp only[gI,if_pos k1]at hl|-;have u:=(qw P r (jJ sp (rr c))).length_le;have v:=L4 sp (rr c);rw[List.all_cons,Dw h h1 (by unfold kU;omega) (by unfold kU;omega),yi h r _ j hl];rfl
  .simp only[gI,if_neg k1]at hl|-;have:zZ (cC P c)=true:=Dw h h1 (ex:=(cC P c).ex) (by unfold cC;simp only;have:=h.get c.fl.toNat;split<;>omega) (by unfold cC;simp only;have:=h.get c.fl.toNat;split<;>omega);rw[List.all_cons,this,yi h r _ j hl];rfl
theorem si {n:Cl->Int}{o:Cl->Cl->Bool}{l:List Cl}(h:(dH n o l).2=0):l.length<=6∧ ∀c∈l,n c=0:=by
 have u:∀(l pre:List Cl),(Rg.qe n o pre l).2=0-> ∀c∈l,n c=0:=by
  intro l;induction l with
  |nil=>intro pre _ c j;cases j
  |cons d r q=>
   intro pre h c j;unfold Rg.qe at h;split at h
   .rename_i h0;split at h
    .rcases List.mem_cons.1 j with rfl|j
     .exact h0
     .exact q _ h c j
    .simp at h
   .rename_i h0;exact absurd h h0
 unfold dH at h;split at h
 .simp at h
 .exact⟨by omega,u _ _ h⟩
structure Qg (sp:List Ty) (m:Mt):Prop where
 UI:Mj (tz sp m) m.code.length
 dec:KN (wP sp m)=(((ct sp m.code).2,tz sp m),0,0)
 right:bP (wP sp m) (Lt sp m)=true
theorem KU {sp:List Ty}{m:Mt}{nt nf nm:Int}(hl:(xS sp m).length<16384) (w:m.code≠ []) (E:m.code.length<=160)
 (O:∀x∈m.code,cS x nt nf nm m.code.length=true∧Cd.ez x) (J:(dH (dp m.code.length) je m.cls).2=0):Qg sp m:=by
 have j:=mh m.code sp;have n:(ct sp m.code).1<+:xS sp m:=qw _ m.cls _;have G:=n.length_le;have v:=uK m.code sp O (by omega);have he:(cW (ct sp m.code).2).2=0:=Io (by omega) (λy l=>(v y l).1) (λy l e=>by rw[j.1];exact(v y l).2.1 e);obtain⟨K,Ia,q⟩:=Cd.KM he (λy l=>(v y l).2.2);obtain⟨I,u⟩:=si J;have A:tz sp m=aK (ct sp m.code).2 0:=by unfold tz;rw[q]
 have o:Mj (tz sp m) m.code.length:=by rw[A,<-j.1];exact MP (by omega)
 have M:=yi o m.cls (ct sp m.code).1 u (by unfold xS at hl;omega);have L:=qx (tz sp m) m.cls (ct sp m.code).1;have D:1<=(wP sp m).length∧(wP sp m).length<=65535:=by
  have F:wP sp m=Cd.fj (aK (ct sp m.code).2 0) (ct sp m.code).2 0:=by
   unfold wP cW at*;rw[if_pos Ia]at he|-;split at he
   .simp at he
   .rename_i hf;rw[if_neg hf]
  rw[F];have h1:=Cd.AO (aK (ct sp m.code).2 0) (ct sp m.code).2 0 0;have P:=List.mem_of_getLast? h1;have Q:=Cd.mi _ _ _ P;refine⟨?_,by omega⟩;cases H:(ct sp m.code).2 with
  |nil=>rw[H]at j;simp at j;exact absurd (List.length_eq_zero_iff.1 j.1.symm) w
  |cons y r=>simp[Cd.fj,Cd.cS]
 refine⟨o,by rw[A];exact K,?_⟩;simp only[bP,Bool.and_eq_true,decide_eq_true_eq];exact⟨D.1,D.2,by unfold Lt;omega,M⟩
open Cd (oO kS)
open Bd (bP)
structure Th (m:Mt) (nt nf nm:Int):Prop where
 name:bY m.name=true
 fl:0<=m.flags∧m.flags<=31
 mx:0<=m.max∧m.max<=12
 ps:m.ps.length<=6
 ls:m.ls.length<=12
 code:m.code.length<=160
 ret:y4 m.ret nt=true
 pA:∀t∈m.ps,kT t nt=true
 lA:∀t∈m.ls,kT t nt=true
 ins:∀x∈m.code,cS x nt nf nm m.code.length=true
 cls:∀c∈m.cls,DX c nt=true
 SO:(dH (dp m.code.length) je m.cls).2=0
theorem Dz {m:Mt}{nt nf nm:Int} :F8 m nt nf nm=true↔Th m nt nf nm:=by
 unfold F8;simp only[Bool.and_eq_true,decide_eq_true_eq,List.all_eq_true];constructor
 .rintro⟨h1,⟨F,E,D,A,y,w,v⟩,u,q,o,n,l,j⟩;exact⟨h1,⟨F,E⟩,⟨D,A⟩,y,w,v,u,q,o,n,l,j⟩
 .rintro⟨h1,⟨F,E⟩,⟨D,A⟩,y,w,v,u,q,o,n,l,j⟩;exact⟨h1,⟨F,E,D,A,y,w,v⟩,u,q,o,n,l,j⟩
theorem Dy {nt nf nm:Int} :∀ {l:List Mt}{last:Int},mu nt nf nm last l=true↔(∀m∈l,last<=m.owner∧m.owner<nt∧Th m nt nf nm)∧(l.map (·.owner)).Pairwise (· <= ·)
 |[],last=>by simp[mu]
 |m::r,last=>by
  have o:=Dy (nt:=nt) (nf:=nf) (nm:=nm) (l:=r) (last:=m.owner);simp only[mu];constructor
  .intro h;split at h
   .rename_i h0;obtain⟨h1,n⟩:=o.1 h;refine⟨λx j=> ?_,?_⟩
    .rcases List.mem_cons.1 j with rfl|j
     .exact⟨h0.1,h0.2.1,Dz.1 h0.2.2⟩
     .have:=h1 x j;exact⟨by omega,this.2⟩
    .rw[List.map_cons,List.pairwise_cons];refine⟨λy q=> ?_,n⟩;obtain⟨x,j,rfl⟩:=List.mem_map.1 q;exact(h1 x j).1
   .cases h
  .rintro⟨h1,n⟩;rw[List.map_cons,List.pairwise_cons]at n;have h0:=h1 m (List.mem_cons_self ..);rw[if_pos ⟨h0.1,h0.2.1,Dz.2 h0.2.2⟩];exact o.2 ⟨λx j=>⟨n.1 _ (List.mem_map.2 ⟨x,j,rfl⟩),(h1 x (List.mem_cons_of_mem _ j)).2⟩,n.2⟩
theorem DM {nt:Int} :∀ {l:List Fd}{last:Int},lO nt last l=true↔(∀m∈l,last<=m.owner∧m.owner<nt∧bY m.name=true∧nG m.ty nt=true)∧(l.map (·.owner)).Pairwise (· <= ·)
 |[],last=>by simp[lO]
 |m::r,last=>by
  have o:=DM (nt:=nt) (l:=r) (last:=m.owner);simp only[lO];constructor
  .intro h;split at h
   .rename_i h0;obtain⟨h1,n⟩:=o.1 h;refine⟨λx j=> ?_,?_⟩
    .rcases List.mem_cons.1 j with rfl|j
     .exact⟨h0.2.1,h0.2.2.1,h0.1,h0.2.2.2⟩
     .have:=h1 x j;exact⟨by omega,this.2⟩
    .rw[List.map_cons,List.pairwise_cons];refine⟨λy q=> ?_,n⟩;obtain⟨x,j,rfl⟩:=List.mem_map.1 q;exact(h1 x j).1
   .cases h
  .rintro⟨h1,n⟩;rw[List.map_cons,List.pairwise_cons]at n;have h0:=h1 m (List.mem_cons_self ..);rw[if_pos ⟨h0.2.2.1,h0.1,h0.2.1,h0.2.2.2⟩];exact o.2 ⟨λx j=>⟨n.1 _ (List.mem_map.2 ⟨x,j,rfl⟩),(h1 x (List.mem_cons_of_mem _ j)).2⟩,n.2⟩
structure Ub (t:TD) (n:Int):Prop where
 name:bY t.name=true
 fl:0<=t.flags∧t.flags<=31
 ext: -1<=t.ext∧t.ext<n
 U0:t.bO.length<=4
 fc:∀x∈t.bO,0<=x∧x<n
theorem Jk {t:TD}{n:Int} :F6 t n=true↔Ub t n:=by
 unfold F6;simp only[Bool.and_eq_true,decide_eq_true_eq,Bool.not_eq_true',List.any_eq_false,ly];constructor
 .rintro⟨h1,⟨v,u,q,o,w⟩,l⟩;exact⟨h1,⟨v,u⟩,⟨q,o⟩,by omega,λx j=>by have:=l x j;omega⟩
 .rintro⟨h1,⟨v,u⟩,⟨q,o⟩,w,l⟩;exact⟨h1,⟨v,u,q,o,by omega⟩,λx j=>by have:=l x j;omega⟩
structure Ml (g:bZ):Prop where
 ts:g.ts.length<=32
 fs:g.fs.length<=64
 ms:g.ms.length<=64
 t:∀t∈g.ts,Ub t g.ts.length
 f:∀f∈g.fs,0<=f.owner∧f.owner<g.ts.length∧bY f.name=true∧nG f.ty g.ts.length=true
 fo:(g.fs.map (·.owner)).Pairwise (· <= ·)
 m:∀m∈g.ms,0<=m.owner∧m.owner<g.ts.length∧Th m g.ts.length g.fs.length g.ms.length
 mo:(g.ms.map (·.owner)).Pairwise (· <= ·)
 en: -1<=g.entry∧g.entry<g.ms.length
theorem tR {g:bZ} :As g=true↔Ml g:=by
 unfold As Bz;simp only[Bool.and_eq_true,decide_eq_true_eq,List.all_eq_true,DM,Dy,Jk];constructor
 .rintro⟨⟨h1,u⟩,⟨⟨q,o⟩,w⟩,⟨⟨n,l⟩,v⟩,j⟩;exact⟨by omega,by omega,by omega,u,q,o,n,l,j⟩
 .rintro⟨h1,w,v,u,q,o,n,l,j⟩;exact⟨⟨by omega,u⟩,⟨⟨q,o⟩,by omega⟩,⟨⟨n,l⟩,by omega⟩,j⟩
def uy (g:bZ) (i:Nat):Sv:=(dw mI (g.ms.take i)).1
theorem uM {p:Ty->Prop} :∀(l:List dM) (sp:List Ty),(∀t∈sp,p t)->(∀x∈l,oO x.op=8->p x.t)-> ∀t∈(ct sp l).1,p t
 |[],sp,h,_ =>h
 |x::r,sp,h,j=>by
  have n:∀y∈r,oO y.op=8->p y.t:=λy o=>j y (List.mem_cons_of_mem _ o);simp only[ct];split
  .rename_i q;refine uM r _ (λt ht=> ?_) n;unfold jJ at ht;split at ht
   .exact h t ht
   .rcases List.mem_append.1 ht with ht|ht
    .exact h t ht
    .rw[List.mem_singleton.1 ht];exact j x (List.mem_cons_self ..) q
  .exact uM r sp h n
theorem uO {p:Ty->Prop}(P:List Int):∀(l:List Cl) (sp:List Ty),(∀t∈sp,p t)->(∀c∈l,c.k=1->p (rr c))-> ∀t∈(gI P sp l).1,p t
 |[],sp,h,_ =>h
 |x::r,sp,h,j=>by
  have n:∀y∈r,y.k=1->p (rr y):=λy o=>j y (List.mem_cons_of_mem _ o);simp only[gI];split
  .rename_i q;refine uO P r _ (λt ht=> ?_) n;unfold jJ at ht;split at ht
   .exact h t ht
   .rcases List.mem_append.1 ht with ht|ht
    .exact h t ht
    .rw[List.mem_singleton.1 ht];exact j x (List.mem_cons_self ..) q
  .exact uO P r sp h n
theorem zt {p:Ty->Prop}{q:List Ty->Prop} :∀(l:List Mt) (s:Sv),(∀t∈s.sp,p t)->(∀t∈s.lo,q t)->(∀m∈l,(∀x∈m.code,oO x.op=8->p x.t)∧(∀c∈m.cls,c.k=1->p (rr c))∧q m.ls)->
 (∀t∈(dw s l).1.sp,p t)∧ ∀t∈(dw s l).1.lo,q t
 |[],s,h1,j,_ =>⟨h1,j⟩
 |m::r,s,h1,j,h=>by
  have hm:=h m (List.mem_cons_self ..);refine zt r (vY s m).1 ?_ ?_ λy n=>h y (List.mem_cons_of_mem _ n)
  .simp only[vY,sx];split
   .exact h1
   .exact uO _ _ _ (uM _ _ h1 hm.1) hm.2.1
  .simp only[vY,xU];split
   .exact j
   .intro t ht;simp only[jJ]at ht;split at ht
    .exact j t ht
    .rcases List.mem_append.1 ht with ht|ht
     .exact j t ht
     .rw[List.mem_singleton.1 ht];exact hm.2.2
theorem Da:∀(l:List Mt) (s:Sv),(∀m∈l,m.code.length<=160∧m.cls.length<=6)->(dw s l).1.sp.length<=s.sp.length+166*l.length∧(dw s l).1.lo.length<=s.lo.length+l.length
 |[],s,_ =>by simp[dw]
 |m::r,s,h=>by
  have hm:=h m (List.mem_cons_self ..);have n:=Da r (vY s m).1 λy j=>h y (List.mem_cons_of_mem _ j);have h1:=(mh m.code s.sp).2;have v:=(qx (tz s.sp m) m.cls (ct s.sp m.code).1).2;have u:=(lj s.lo m.ls).2;have q:(vY s m).1.sp.length<=s.sp.length+166:=by
   simp only[vY,sx];split
   .simp only;omega
   .simp only[xS];omega
  have o:(vY s m).1.lo.length<=s.lo.length+1:=by simp only[vY,xU];split<;>simp only<;>omega
  simp only[dw,List.length_cons];omega
theorem Gz (g:bZ):uy g 0=mI:=by simp[uy,dw]
theorem BE {g:bZ}(h:Ml g) (i:Nat):(uy g i).sp.length<=10624∧(uy g i).lo.length<=64:=by
 have hm:∀m∈g.ms.take i,m.code.length<=160∧m.cls.length<=6:=λm hm=>by have:=(h.m m (List.mem_of_mem_take hm)).2.2;exact⟨this.code,(si this.SO).1⟩
 have:=Da (g.ms.take i) mI hm;have h1:(g.ms.take i).length<=64:=by have:=h.ms;simp;omega
 simp only[mI,List.length_nil]at this;unfold uy;simp only[mI];omega
theorem OH (g:bZ):cI g=uy g g.ms.length:=by simp[cI,uy]
theorem Db {g:bZ}(h:Ml g) (i:Nat):(∀t∈(uy g i).sp,nG t g.ts.length=true)∧ ∀l∈(uy g i).lo,l.length<=12∧ ∀t∈l,kT t g.ts.length=true:=by
 refine zt (p:=λt=>nG t g.ts.length=true) (q:=λl=>l.length<=12∧ ∀t∈l,kT t g.ts.length=true) (g.ms.take i) mI (by simp[mI]) (by simp[mI]) λm hm=> ?_;have j:=(h.m m (List.mem_of_mem_take hm)).2.2;refine⟨λx n u=> ?_,λc o h1=> ?_,j.ls,j.lA⟩
 .have:=Ks (j.ins x n) u;unfold nG;rw[this.2.1,this.2.2];rfl
 .have:=j.cls c o;unfold DX at this;rw[if_pos h1]at this;exact this
open Tryz
abbrev eG:dW:=(.S 0 (.S 1 (.S 3 (.S 4 (.R 2 (.R 5 (.S 6 (.R 7 (.S 8 (.A 9 .D .Z))))))))))
abbrev eF:dW:=(.S 0 (.S 1 (.S 3 (.S 4 (.R 2 (.R 5 (.S 6 (.R 7 (.S 8 (.A 9 .D .Z))))))))))
abbrev eE:dW:=(.S 0 (.S 1 (.S 3 (.S 4 (.R 2 (.R 5 (.S 6 (.R 7 (.S 8 (.A 9 .D .Z))))))))))
abbrev eD:dW:=(.S 0 (.S 1 (.S 3 (.S 4 (.R 2 (.R 5 (.S 6 (.R 7 (.S 8 (.A 9 .D .Z))))))))))
abbrev eC:dW:=(.S 0 (.S 1 (.S 3 (.S 4 (.R 2 (.R 5 (.S 6 (.R 7 (.S 8 (.A 9 .D .Z))))))))))
abbrev cg:dW:=(.S 0 (.S 1 (.S 3 (.S 4 (.R 2 (.R 5 (.S 6 (.R 7 (.S 8 (.A 9 .D .Z))))))))))
abbrev dI:dW:=(.S 0 (.S 1 (.S 3 (.S 5 (.S 6 (.S 7 (.R 2 (.R 4 (.R 8 (.S 9 (.A 10 (.S 11 (.S 12 (.S 13 (.S 14 .D)))) .Z)))))))))))
theorem cJ (S:List Nat):cu prog [(21,cg),(23,cg),(24,cg),(26,cg),(27,cg),(30,cg),(34,dI)] S:=mixed
open Sg (aE bL bI fW fX iJ cD)
open Pl (sV bR bD)
theorem DI.OG {k:SK}{en:Int}{d:SD}{T:DR}{B τ:AS}(h:DI k en d T B τ) {t:Nat}{X:List (List Int)}(j:(ed T)[t]? =some X):
 ∃x,T[t]? =some x∧(T.map pB)[t]? =some (pB x)∧x.2.length=X.length:=by
 rw[ed,List.getElem?_map]at j;cases l:T[t]? with
 |none=>rw[l]at j;cases j
 |some x=>rw[l]at j;simp only[Option.map_some,Option.some.injEq]at j;subst j;exact⟨x,rfl,by rw[List.getElem?_map,l];rfl,by simp⟩
theorem z9 {g:bZ}(h:Ml g):(jj g).all bY=true:=by
 rw[List.all_eq_true];intro s l;simp only[jj,rq,List.take_length,List.mem_append,List.mem_map]at l;rcases l with(⟨x,j,rfl⟩|⟨x,j,rfl⟩)|⟨x,j,rfl⟩
 .exact(h.t x j).name
 .exact(h.f x j).2.2.1
 .exact(h.m x j).2.2.name
theorem FK {l:List (zY)}(h:(bD l).2.2=0):Pl.yV l= .agg [.ah 5 ((bD l).1.map u8) .aJ false,.ah 3 ((bD l).2.1.map bg) .aJ (decide (l= [])),zI 0]:=by
 unfold bD at h|-;unfold Pl.yV;split at h
 .simp at h
 .rename_i c;rw[if_neg c,if_neg c];simp[bg,Function.comp_def]
theorem IK {l:List (zY)}(h:(bD l).2.2≠0):Pl.yV l= .agg [.aC,.aC,zI 4]∧(bD l).2.2=4:=by
 unfold bD at h|-;unfold Pl.yV;split at h
 .rename_i c;rw[if_pos c,if_pos c];exact⟨rfl,rfl⟩
 .simp at h
theorem G4 (g:bZ) (hL:Lm g) (hO:As g=true->tu g) (hD:As g=true->Ti g) (hI:∀m∈g.ms,∀x∈m.code,Qc x) (gh:As g=true-> ∀b∈dm g,b.length<=300) (σ:AS):
 ad prog 13 [lp g] σ (aq (wm g) σ) No:=by
 have a3:=λσ=>BW g hL hI σ;cases hF:As g with
 |false=>
  rw[hF]at a3;have hS:dc g=([],17):=by unfold dc;rw[if_pos hF]
  simp only[aN]at a3|-;refine ad.ob func13 ?_;refine gO cJ tI tI ?_;intro a0 a4;refine gO cJ tI @a3 ?_;exact⟨fV (by decide) hS,AS.ao (lR _) a4⟩
 |true=>
 rw[hF]at a3;have Q:=hO hF;have gl:=gh hF;have ge:zW (g.entry+1)=g.entry+1:=aI (by have:=Q.en;omega) (by have:=Q.en;omega);simp only[aN]at a3|-;refine ad.ob func13 ?_;refine gO cJ tI tI ?_;intro a0 a4;refine gO (S:= [6]) cJ tI @a3 ?_;intro aF n d8;have J:=ba n;refine gO (S:= [6]) cJ (j2 @ge n) tI ?_;intro bj l o d9;have D:=ba l;have K:=ba o;simp-implicitDefEqProofs [n,J,l,D,o,K];refine gO (S:= [6]) cJ (j3 n l o) tI ?_;refine aA.DA aF (ty:=88) OL (cs:=c7 (g.entry+1) bj) (by simp[c7,D]) (by simp[OL,c7]) (by simp[OL]) ?_;intro hz f4 l1 m1 f1 c1 t1 o1;have e1:f4 bj=some (.cells 94 (eM 6 .aC)):=by rw[o1 bj l (λh=>by have:=f1 _ h;simp[l]at this)];simp[l]
 refine aA.DA bj (ty:=94) Lu (cs:=eM 6 .aC) e1 (by simp[Lu,eM]) (by simp[Lu]) ?_;intro hc f3 l2 m2 f2 c2 t2 o2;obtain⟨k,T,rfl,ec,hT⟩:=DI.init (B:=σ.set a0 (.cells 26 [.ah 46 (g.ts.map jD) .aJ g.tn,.ah 56 (g.fs.map lu) .aJ g.fn,.ah 53 (g.ms.map fM) .aJ g.mn,zI g.entry])) (by simp[n,d8]) (by simp[o,d9]) D
  (λj j1 j2=>by simp[AS.set,j1,j2]) (by simp) (by simp[l]) l1 m1 f1 c1 t1 o1 l2 m2 f2 c2 t2 o2
 clear o1 o2 c1 c2 t1 t2 f1 f2 e1;have cv:AS.le σ (σ.set a0 (.cells 26 [.ah 46 (g.ts.map jD) .aJ g.tn,.ah 56 (g.fs.map lu) .aJ g.fn,.ah 53 (g.ms.map fM) .aJ g.mn,zI g.entry])):=AS.ao (lR _) a4;have k1:(σ.set a0 (.cells 26 [.ah 46 (g.ts.map jD) .aJ g.tn,.ah 56 (g.fs.map lu) .aJ g.fn,.ah 53 (g.ms.map fM) .aJ g.mn,zI g.entry])) a0=some (.cells 26 [.ah 46 (g.ts.map jD) .aJ g.tn,.ah 56 (g.fs.map lu) .aJ g.fn,.ah 53 (g.ms.map fM) .aJ g.mn,zI g.entry]):=AS.aD _ _ _;generalize (σ.set a0 (.cells 26 [.ah 46 (g.ts.map jD) .aJ g.tn,.ah 56 (g.fs.map lu) .aJ g.fn,.ah 53 (g.ms.map fM) .aJ g.mn,zI g.entry]))=A at*;have hX:=tR.1 hF;have q1:=ec.le a0 _ k1;refine gO cJ (j4 @q1 n l o) tI ?_;have c8:=DI.types Q hX.fo hX.mo (en:=g.entry+1) (k:=k) (B:=A) (τ:=f3) ⟨T,by simpa using ec,by simpa using hT⟩;simp only[aN]at c8;refine aj.of c8 ?_ (λ_ _ h=>h.elim);rintro r hy ⟨rfl,eg⟩;have q3:=eg.choose_spec.1.le a0 _ k1;have dl:=DI.rows Q (hD hF) eg;simp only[aN]at dl;simp-implicitDefEqProofs [n,J,l,D,o,K];refine gO cJ (j4 @q3 n l o) tI ?_;refine aj.of dl ?_ (λ_ _ h=>h.elim);rintro r c4 ⟨rfl,T4,h4,fi⟩;have q4:=h4.aF;rw[dG]at q4;have gb:(rm g).nm=jj g:=rfl;have fa:(rm g).bl=dm g:=rfl;rw[gb,fa]at q4;have hY:=ld g;have hK:=Q.ts;have hP:=Q.fs;have hN:=Q.ms;have hj:(cI g).sp.length<=20000:=by have:=Q.sp g.ms.length;rwa [List.take_length]at this
 have hm:(cI g).lo.length<=64:=by have:=Q.lo g.ms.length;rwa [List.take_length]at this
 have h3:=g9 g;have b4:=Pl.xi (jj g) (by omega) (z9 hX);have cd:(bR (jj g)).2.2=0:=by rw[b4]
 have ar:=λσ=>Pl.Ez (jj g) (.tok k.tN) (decide (jj g= [])) (by omega) (HH hL) (z9 hX) σ;rw[show(Pl.qh (jj g) [0] []).1=(bR (jj g)).1 by rw[b4],show((Pl.qh (jj g) [0] []).2.map λp=>AV.sc (.int .i64 p.2))=(mB g).map bg by unfold mB;rw[b4];simp[bg,Function.comp_def]]at ar;have I:=λσ=>Pl.B0 ((dm g).map λb=>(b,decide (b= []))) (.tok k.tB) (decide (dm g= [])) (by simp;omega) (λs hs=>by obtain⟨b,hb,rfl⟩:=List.mem_map.1 hs;exact gl b hb) σ;simp only[List.map_map,Function.comp_def,List.map_id']at I;have fb:(dm g).map (λx=>Pl.bV (x,decide (x= [])))=(dm g).map bL:=rfl;rw[fb]at I;simp-implicitDefEqProofs [n,J,l,D,o,K];by_cases a1:(bD (dm g)).2.2=0
 .rw[FK a1]at I;have fd:(bD (dm g)).2.1=kp g:=rfl;rw[fd]at I;refine gO (S:= [12]) cJ (j4 @q4 n l o) @ar ?_;intro id5 L;have ay.sid_id5:¬k.aF=id5:=nq q4 L;have O.aF:=ba ay.sid_id5;refine gO (S:= [12]) cJ (j6 @q4 n l o O.aF ay.sid_id5) @I ?_;intro id6 u am;have ai:=ba u;have cj:c4 id6=none:=by simpa[AS.set,u]using am
  have ay.sid_id6:¬k.aF=id6:=nq q4 cj;have et.aF:=ba ay.sid_id6;have h5:=(h4.own (b:=(.cells 91 [.ah 5 ((bR (jj g)).1.map u8) .aJ false,.ah 3 ((mB g).map bg) .aJ (decide (jj g= [])),zI 0])) L).own (i:=id6) (b:=(.cells 91 [.ah 5 ((bD (dm g)).1.map u8) .aJ false,.ah 3 ((kp g).map bg) .aJ (decide (dm g= [])),zI 0])) (by simpa[AS.set,u]using am);have k5:((A.set id5 (.cells 91 [.ah 5 ((bR (jj g)).1.map u8) .aJ false,.ah 3 ((mB g).map bg) .aJ (decide (jj g= [])),zI 0])).set id6 (.cells 91 [.ah 5 ((bD (dm g)).1.map u8) .aJ false,.ah 3 ((kp g).map bg) .aJ (decide (dm g= [])),zI 0])) id5=some (.cells 91 [.ah 5 ((bR (jj g)).1.map u8) .aJ false,.ah 3 ((mB g).map bg) .aJ (decide (jj g= [])),zI 0]):=by rw[AS.ag _ _ ai,AS.aD]
  have k6:((A.set id5 (.cells 91 [.ah 5 ((bR (jj g)).1.map u8) .aJ false,.ah 3 ((mB g).map bg) .aJ (decide (jj g= [])),zI 0])).set id6 (.cells 91 [.ah 5 ((bD (dm g)).1.map u8) .aJ false,.ah 3 ((kp g).map bg) .aJ (decide (dm g= [])),zI 0])) id6=some (.cells 91 [.ah 5 ((bD (dm g)).1.map u8) .aJ false,.ah 3 ((kp g).map bg) .aJ (decide (dm g= [])),zI 0]):=AS.aD _ _ _;have ft:AS.le σ ((A.set id5 (.cells 91 [.ah 5 ((bR (jj g)).1.map u8) .aJ false,.ah 3 ((mB g).map bg) .aJ (decide (jj g= [])),zI 0])).set id6 (.cells 91 [.ah 5 ((bD (dm g)).1.map u8) .aJ false,.ah 3 ((kp g).map bg) .aJ (decide (dm g= [])),zI 0])):=AS.le_trans cv (AS.ao (AS.ao (lR _) (h4.my L)) (h4.my cj));generalize ((A.set id5 (.cells 91 [.ah 5 ((bR (jj g)).1.map u8) .aJ false,.ah 3 ((mB g).map bg) .aJ (decide (jj g= [])),zI 0])).set id6 (.cells 91 [.ah 5 ((bD (dm g)).1.map u8) .aJ false,.ah 3 ((kp g).map bg) .aJ (decide (dm g= [])),zI 0]))=C at*;generalize ((c4.set id5 (.cells 91 [.ah 5 ((bR (jj g)).1.map u8) .aJ false,.ah 3 ((mB g).map bg) .aJ (decide (jj g= [])),zI 0])).set id6 (.cells 91 [.ah 5 ((bD (dm g)).1.map u8) .aJ false,.ah 3 ((kp g).map bg) .aJ (decide (dm g= [])),zI 0]))=f0 at*;clear L am;have b3:(mB g).length=(jj g).length:=by unfold mB;rw[b4];simp[Pl.tK]
  have a8:(kp g).length=(dm g).length:=by
   unfold kp bD at*;split at a1
   .simp at a1
   .rename_i c2;rw[if_neg c2];simp[Pl.uf]
  have fe:ed T4=wQ g 0 0:=by rw[GF];exact fi
  have p5:=h5.le id5 _ k5;have p6:=h5.le id6 _ k6;clear eg q3 q1 ec hT h4 a3 ar I c8 dl q4;refine gO cJ (j4 @p5 @p6 @ae @au) tI ?_;clear p5 p6;refine aA.aY (α:=(Nat)×(DR)×(AS)) ((0,T4,f0)) (λ⟨t,T',a2⟩=>6-t) (λ⟨t,T',a2⟩=>t<=6∧DI k (g.entry+1) (rm g) T' C a2∧ed T'=wQ g t 0) [(4,?_),(5,?_),(6,?_)] (λ⟨t,T',a2⟩=> [(7,zI t)]) (λ⟨t,T',a2⟩=>a2) ?_ ?_ ?_ ?_;rotate_left 3
  .exact gF (j2 @ae @au)
  ·(try dsimp only);exact lR _
  .exact⟨by omega,h5,fe⟩
  intro x_ b0;obtain⟨t,T',a2⟩:=x_;try dsimp only at b0|-
  obtain⟨ht,hS,hT⟩:=b0;simp only[fm];by_cases e4:t<6
  .have q:zW ((t:Int)+1)=((t+1:Nat):Int):=bh (by omega);obtain⟨X,hX⟩:∃X,(dE g bp bp)[t]? =some X:=⟨_,List.getElem?_eq_getElem (by simp[dE];exact e4)⟩;have hR:X.length<=20000:=nQ Q bp bp X (List.mem_of_getElem? hX);have db:((t:Int)<6)=True:=eq_true (by omega);refine gO cJ (j4 @db @ae @au @q) tI ?_;refine aA.aY (α:=(Nat)×(DR)×(AS)) ((0,T',a2)) (λ⟨i,T2,M⟩=>X.length-i) (λ⟨i,T2,M⟩=>i<=X.length∧DI k (g.entry+1) (rm g) T2 C M∧ed T2=wQ g t i) [(4,?_),(5,?_),(6,?_),(7,?_)] (λ⟨i,T2,M⟩=> [(8,zI i)]) (λ⟨i,T2,M⟩=>M) ?_ ?_ ?_ ?_;rotate_left 4
   .exact gF (j3 @ae @au @q)
   ·(try dsimp only);exact lR _
   .exact⟨by omega,hS,hT⟩
   intro x_ b0;obtain⟨i,T2,M⟩:=x_;try dsimp only at b0|-
   obtain⟨hi,ap,eb⟩:=b0;simp only[fm];have s0:=ap.aF;have s1:=ap.bj;rw[dG]at s0;have ea:=Mz (i:=i) hX;rw[<-eb]at ea;obtain⟨x,hx,P,f7⟩:=ap.OG ea;have E:x.2.length=X.length:=by rw[f7];simp;omega
   have U:(T2.map pB).length=6:=by simp[ap.qj]
   by_cases y:i<X.length
   .have w:zW ((i:Int)+1)=((i+1:Nat):Int):=bh (by omega);obtain⟨x',p,e0,hp,al,F,hh,e2,_⟩:=ap.rowAt ea (Jq y);rw[hx]at e0;cases e0;have r5:=ap.le id5 _ k5;have r6:=ap.le id6 _ k6;have ak:∀v,v=fT g t X[i]->v.length=p.2.1.length-> ∃T3,DI k (g.entry+1) (rm g) T3 C (M.set p.1 (mJ (p.1,v,p.2.2)))∧ed T3=wQ g t (i+1):=λv Y hl=>
     ⟨gS T2 t i v,ap.setRow hx hp hl,by rw[Gy,eb,Y];exact GG hX y⟩
    have fk:=ap.fr p.1 (by simp only[cm,List.mem_cons];exact .inr (.inr (.inr (.inr (.inr (.inr (.inr (List.mem_append_right _ (List.mem_flatMap.2 ⟨x,List.mem_of_getElem? hx,List.mem_map.2 ⟨p,List.mem_of_getElem? hp,rfl⟩⟩)))))))));have bv:¬id6=p.1:=by rintro e;rw[<-e,k6]at fk;cases fk
    obtain⟨pid,vals,spare⟩:=p;simp only at bv;simp only at al F ak;generalize g4:T2.map pB=R at*;rw[eQ]at e2;obtain⟨Z,ab⟩:=List.getElem?_eq_some_iff.1 e2;obtain⟨ac,af⟩:=List.getElem?_eq_some_iff.1 P;have g7:t=0∨t=1∨t=2∨t=3∨t=4∨t=5:=by omega
    rcases g7 with rfl|rfl|rfl|rfl|rfl|rfl
    .have av:bt g bp=X:=by simpa[dE]using hX
     subst av;have ce:i<g.ts.length:=by simpa[bt]using y
     have Y:vals=qi g bp i g.ts[i]:=by rw[al];simp[bt]
     have V:i<(mB g).length:=by rw[b3];simp only[ld];omega
     simp only[qi,bp]at Y;subst Y;simp only[mJ,List.map_cons,List.map_nil,List.cons_append,List.nil_append,aG]at F;obtain⟨T3,y1,y2⟩:=ak [g.ts[i].flags,(mB g)[i],4*(g.ts[i].ext+1),dk (g.fs.map (·.owner)) i,dk (g.ms.map (·.owner)) i] (by simp[bt,qi,bp,fT,rp,V]) rfl;repeat (first
      |refine g1 ?_
      |((first|refine g2 ?_ |((with_reducible apply dX 21 eG);refine dY mixed ?_)|((with_reducible apply dX 23 eF);refine dY mixed ?_)|((with_reducible apply dX 24 eE);refine dY mixed ?_)|((with_reducible apply dX 26 eD);refine dY mixed ?_)|((with_reducible apply dX 27 eC);refine dY mixed ?_)|((with_reducible apply dX 30 cg);refine dY mixed ?_)|((with_reducible apply dX 34 dI);refine dY mixed ?_));simp-implicitDefEqProofs [y,s0,s1,U,P,E,gu,Z,ab,ac,af,F,r5,r6,V,aG,ae,au,q,w])
      |(refine g3 ?_;try simp-implicitDefEqProofs [y,s0,s1,U,P,E,gu,Z,ab,ac,af,F,r5,r6,V,aG,ae,au,q,w]))
     refine aH.mk ((i+1,T3,M.set pid (mJ (pid,[g.ts[i].flags,(mB g)[i],4*(g.ts[i].ext+1),dk (g.fs.map (·.owner)) i,dk (g.ms.map (·.owner)) i],spare)))) (by(try dsimp only);omega) (gF (j4 @ae @au @q @w)) (by(try dsimp only);exact le_eq (by simp[mJ,bg])) ?_;try dsimp only
     exact⟨y,y1,y2⟩
    .have av:bu g bp bp=X:=by simpa[dE]using hX
     subst av;have ce:i<g.fs.length:=by simpa[bu]using y
     have Y:vals=lx g bp bp i g.fs[i]:=by rw[al];simp[bu]
     simp only[lx,bp]at Y;have V:g.ts.length+i<(mB g).length:=by rw[b3];simp only[ld];omega
     have H:i<(kp g).length:=by rw[a8];simp only[g9];omega
     generalize (if g.fs[i].stat=true then(1:Int)else 0)=c0 at Y;generalize g.ts.length+i=n1 at Y V;have a5:=al.symm.trans Y;subst Y;simp only[mJ,List.map_cons,List.map_nil,List.cons_append,List.nil_append,aG]at F;obtain⟨T3,y1,y2⟩:=ak [c0,(mB g)[n1],(kp g)[i]] (by rw[a5];simp[fT,rp,V,H]) rfl;repeat (first
      |refine g1 ?_
      |((first|refine g2 ?_ |((with_reducible apply dX 21 eG);refine dY mixed ?_)|((with_reducible apply dX 23 eF);refine dY mixed ?_)|((with_reducible apply dX 24 eE);refine dY mixed ?_)|((with_reducible apply dX 26 eD);refine dY mixed ?_)|((with_reducible apply dX 27 eC);refine dY mixed ?_)|((with_reducible apply dX 30 cg);refine dY mixed ?_)|((with_reducible apply dX 34 dI);refine dY mixed ?_));simp-implicitDefEqProofs [y,s0,s1,U,P,E,gu,Z,ab,ac,af,F,r5,r6,aG,V,H,bv,ae,au,q,w])
      |(refine g3 ?_;try simp-implicitDefEqProofs [y,s0,s1,U,P,E,gu,Z,ab,ac,af,F,r5,r6,aG,V,H,bv,ae,au,q,w]))
     refine aH.mk ((i+1,T3,M.set pid (mJ (pid,[c0,(mB g)[n1],(kp g)[i]],spare)))) (by(try dsimp only);omega) (gF (j4 @ae @au @q @w)) (by(try dsimp only);exact le_eq (by simp[mJ,bg])) ?_;try dsimp only
     exact⟨y,y1,y2⟩
    .have av:bM g bp bp=X:=by simpa[dE]using hX
     subst av;have ce:i<g.ms.length:=by simpa[bM,ef]using y
     obtain⟨z,Y⟩:∃z,vals=oh g bp bp i z:=⟨_,by rw[al];simp[bM];rfl⟩;simp only[oh,bp]at Y;have V:g.ts.length+g.fs.length+i<(mB g).length:=by rw[b3];simp only[ld];omega
     have H:g.fs.length+i<(kp g).length:=by rw[a8];simp only[g9];omega
     generalize g.ts.length+g.fs.length+i=n1 at Y V;generalize g.fs.length+i=n2 at Y H;have a5:=al.symm.trans Y;subst Y;simp only[mJ,List.map_cons,List.map_nil,List.cons_append,List.nil_append,aG]at F;obtain⟨T3,y1,y2⟩:=ak [z.2.1,z.1.flags,z.1.max,(mB g)[n1],(kp g)[n2],z.2.2] (by rw[a5];simp[fT,rp,V,H]) rfl;repeat (first
      |refine g1 ?_
      |((first|refine g2 ?_ |((with_reducible apply dX 21 eG);refine dY mixed ?_)|((with_reducible apply dX 23 eF);refine dY mixed ?_)|((with_reducible apply dX 24 eE);refine dY mixed ?_)|((with_reducible apply dX 26 eD);refine dY mixed ?_)|((with_reducible apply dX 27 eC);refine dY mixed ?_)|((with_reducible apply dX 30 cg);refine dY mixed ?_)|((with_reducible apply dX 34 dI);refine dY mixed ?_));simp-implicitDefEqProofs [y,s0,s1,U,P,E,gu,Z,ab,ac,af,F,r5,r6,aG,V,H,bv,ae,au,q,w])
      |(refine g3 ?_;try simp-implicitDefEqProofs [y,s0,s1,U,P,E,gu,Z,ab,ac,af,F,r5,r6,aG,V,H,bv,ae,au,q,w]))
     refine aH.mk ((i+1,T3,M.set pid (mJ (pid,[z.2.1,z.1.flags,z.1.max,(mB g)[n1],(kp g)[n2],z.2.2],spare)))) (by(try dsimp only);omega) (gF (j4 @ae @au @q @w)) (by(try dsimp only);exact le_eq (by simp[mJ,bg])) ?_;try dsimp only
     exact⟨y,y1,y2⟩
    .skip
     obtain⟨T3,y1,y2⟩:=ak vals (by rw[al];rfl) rfl;repeat (first
      |refine g1 ?_
      |((first|refine g2 ?_ |((with_reducible apply dX 21 eG);refine dY mixed ?_)|((with_reducible apply dX 23 eF);refine dY mixed ?_)|((with_reducible apply dX 24 eE);refine dY mixed ?_)|((with_reducible apply dX 26 eD);refine dY mixed ?_)|((with_reducible apply dX 27 eC);refine dY mixed ?_)|((with_reducible apply dX 30 cg);refine dY mixed ?_)|((with_reducible apply dX 34 dI);refine dY mixed ?_));simp-implicitDefEqProofs [y,s0,s1,U,P,E,gu,Z,ab,ac,af,F,r5,r6,aG,ae,au,q,w])
      |(refine g3 ?_;try simp-implicitDefEqProofs [y,s0,s1,U,P,E,gu,Z,ab,ac,af,F,r5,r6,aG,ae,au,q,w]))
     refine aH.mk ((i+1,T3,M.set pid (mJ (pid,vals,spare)))) (by(try dsimp only);omega) (gF (j4 @ae @au @q @w)) (by(try dsimp only);(rw[AS.eR F];exact lR _)) ?_;try dsimp only
     exact⟨y,y1,y2⟩
    .have av:cw g bp=X:=by simpa[dE]using hX
     subst av;have ce:i<(cI g).sp.length:=by simpa[cw]using y
     have Y:vals=kJ (g.fs.length+g.ms.length) bp i:=by rw[al];simp[cw]
     simp only[kJ,bp]at Y;have H:g.fs.length+g.ms.length+i<(kp g).length:=by rw[a8];simp only[g9];omega
     generalize g.fs.length+g.ms.length+i=n1 at Y H;have a5:=al.symm.trans Y;subst Y;simp only[mJ,List.map_cons,List.map_nil,List.cons_append,List.nil_append,aG]at F;obtain⟨T3,y1,y2⟩:=ak [(kp g)[n1]] (by rw[a5];simp[fT,rp,H]) rfl;repeat (first
      |refine g1 ?_
      |((first|refine g2 ?_ |((with_reducible apply dX 21 eG);refine dY mixed ?_)|((with_reducible apply dX 23 eF);refine dY mixed ?_)|((with_reducible apply dX 24 eE);refine dY mixed ?_)|((with_reducible apply dX 26 eD);refine dY mixed ?_)|((with_reducible apply dX 27 eC);refine dY mixed ?_)|((with_reducible apply dX 30 cg);refine dY mixed ?_)|((with_reducible apply dX 34 dI);refine dY mixed ?_));simp-implicitDefEqProofs [y,s0,s1,U,P,E,gu,Z,ab,ac,af,F,r5,r6,aG,H,ae,au,q,w])
      |(refine g3 ?_;try simp-implicitDefEqProofs [y,s0,s1,U,P,E,gu,Z,ab,ac,af,F,r5,r6,aG,H,ae,au,q,w]))
     refine aH.mk ((i+1,T3,M.set pid (mJ (pid,[(kp g)[n1]],spare)))) (by(try dsimp only);omega) (gF (j4 @ae @au @q @w)) (by(try dsimp only);exact le_eq (by simp[mJ,bg])) ?_;try dsimp only
     exact⟨y,y1,y2⟩
    .have av:cY g bp=X:=by simpa[dE]using hX
     subst av;have ce:i<(cI g).lo.length:=by simpa[cY]using y
     have Y:vals=kJ (g.fs.length+g.ms.length+(cI g).sp.length) bp i:=by rw[al];simp[cY]
     simp only[kJ,bp]at Y;have H:g.fs.length+g.ms.length+(cI g).sp.length+i<(kp g).length:=by rw[a8];simp only[g9];omega
     generalize g.fs.length+g.ms.length+(cI g).sp.length+i=n1 at Y H;have a5:=al.symm.trans Y;subst Y;simp only[mJ,List.map_cons,List.map_nil,List.cons_append,List.nil_append,aG]at F;obtain⟨T3,y1,y2⟩:=ak [(kp g)[n1]] (by rw[a5];simp[fT,rp,H]) rfl;repeat (first
      |refine g1 ?_
      |((first|refine g2 ?_ |((with_reducible apply dX 21 eG);refine dY mixed ?_)|((with_reducible apply dX 23 eF);refine dY mixed ?_)|((with_reducible apply dX 24 eE);refine dY mixed ?_)|((with_reducible apply dX 26 eD);refine dY mixed ?_)|((with_reducible apply dX 27 eC);refine dY mixed ?_)|((with_reducible apply dX 30 cg);refine dY mixed ?_)|((with_reducible apply dX 34 dI);refine dY mixed ?_));simp-implicitDefEqProofs [y,s0,s1,U,P,E,gu,Z,ab,ac,af,F,r5,r6,aG,H,ae,au,q,w])
      |(refine g3 ?_;try simp-implicitDefEqProofs [y,s0,s1,U,P,E,gu,Z,ab,ac,af,F,r5,r6,aG,H,ae,au,q,w]))
     refine aH.mk ((i+1,T3,M.set pid (mJ (pid,[(kp g)[n1]],spare)))) (by(try dsimp only);omega) (gF (j4 @ae @au @q @w)) (by(try dsimp only);exact le_eq (by simp[mJ,bg])) ?_;try dsimp only
     exact⟨y,y1,y2⟩
   .obtain rfl:i=X.length:=by omega
    generalize g4:T2.map pB=R at*;refine gO cJ (j2 (j7 @s0 @s1 @U @P @E @gu @ae) (j2 @au @q)) tI ?_;refine aH.mk ((t+1,T2,M)) (by(try dsimp only);omega) (gF (j3 @ae @au @q)) gT ?_;try dsimp only
    exact⟨e4,ap,by rw[eb];exact GH hX⟩
  .have db:((t:Int)<6)=False:=eq_false (by omega);obtain rfl:t=6:=by omega
   have s0:=hS.aF;rw[dG]at s0;have ch:ed T'=dE g (nM g) (pC g):=by rw[hT];exact Jp g
   have c6:=hS.write (by rw[ch];exact nQ Q _ _) (by rw[ch];exact zq _ _ _);rw[ch]at c6;have gc:Rw.dC (dE g (nM g) (pC g))=true:=nS _ _ _;have ci:C k.aF=none:=(hS.I9).1;refine gO cJ (j4 @db @s0 @ae @au) tI ?_;refine aj.of c6 ?_ (λ_ _ h=>h.elim);intro r hw hW;have e5:id5≠k.aF:=by rintro e;rw[e,ci]at k5;cases k5
   have e6:id6≠k.aF:=by rintro e;rw[e,ci]at k6;cases k6
   rcases hW with⟨_,⟨b1,tw,c9,rfl,rfl⟩|⟨b1,rfl,rfl⟩⟩|⟨hW,_⟩
   .have ee:dc g=pP (Rw.de (dE g (nM g) (pC g)) (g.entry+1)) (bR (jj g)).1 (bD (dm g)).1 (cI g).co:=by unfold dc;rw[if_neg (by simp[hF]),if_neg (by simp[cd]),if_neg (by simp[a1]),if_neg (by simp[b1])]
    have e9:(rm g).co=(cI g).co:=rfl;have n1:¬tw=k.aF:=by rintro e;rw[e,AS.aD]at c9;cases c9
    have b5:C tw=none:=by rwa [AS.ag _ _ n1]at c9
    have n5:id5≠tw:=by rintro e;rw[e,b5]at k5;cases k5
    have n6:id6≠tw:=by rintro e;rw[e,b5]at k6;cases k6
    have cc:((C.set k.aF (.cells 88 (wF k (g.entry+1) (rm g)))).set tw (.tok (Rw.de (dE g (nM g) (pC g)) (g.entry+1)).length)) k.aF=some (.cells 88 (wF k (g.entry+1) (rm g))):=by rw[AS.ag _ _ (λe=>n1 e.symm),AS.aD]
    have p5:=(show((C.set k.aF (.cells 88 (wF k (g.entry+1) (rm g)))).set tw (.tok (Rw.de (dE g (nM g) (pC g)) (g.entry+1)).length)) id5=C id5 by rw[AS.ag _ _ n5,AS.ag _ _ e5]).trans k5;have p6:=(show((C.set k.aF (.cells 88 (wF k (g.entry+1) (rm g)))).set tw (.tok (Rw.de (dE g (nM g) (pC g)) (g.entry+1)).length)) id6=C id6 by rw[AS.ag _ _ n6,AS.ag _ _ e6]).trans k6;have b2:AS.le σ ((C.set k.aF (.cells 88 (wF k (g.entry+1) (rm g)))).set tw (.tok (Rw.de (dE g (nM g) (pC g)) (g.entry+1)).length)):=AS.le_trans ft (AS.ao (AS.ao (lR _) ci) b5);generalize ((C.set k.aF (.cells 88 (wF k (g.entry+1) (rm g)))).set tw (.tok (Rw.de (dE g (nM g) (pC g)) (g.entry+1)).length))=S at*;have gt:(Rw.de (dE g (nM g) (pC g)) (g.entry+1)).length<=140737488355328:=by have:=wM (g.entry+1) (nQ Q (nM g) (pC g)) rfl;omega
    have ho:=xj cd;have hq:=xD a1;have hQ:(cI g).co.length<=100000000:=by have:=Q.co g.ms.length;rwa [List.take_length]at this
    clear c6 hS hT ch fi fe h5 k5 k6 hX b4;generalize Rw.de (dE g (nM g) (pC g)) (g.entry+1)=W at*;rw[dG,e9]at cc;have e8:=λn1 n2 n3 hL hb=>St.ED (W,false) ((bR (jj g)).1,n1) ((bD (dm g)).1,n2) ((cI g).co,n3) (.tok tw) .aJ .aJ (.tok k.tC) hL hb S;have e7:=λn1 n2 n3 hL=>St.EC (W,false) ((bR (jj g)).1,n1) ((bD (dm g)).1,n2) ((cI g).co,n3) (.tok tw) .aJ .aJ (.tok k.tC) hL S;simp only[St.BF,St.sO]at e8 e7;generalize (bR (jj g)).1=N at*;generalize (bD (dm g)).1=BB at*;generalize (cI g).co=CO at*;simp-implicitDefEqProofs [ae,au];by_cases G:65536<W.length∨65536<N.length∨65536<BB.length∨65536<CO.length
    .have hS:dc g=([],4):=by rw[ee,pP];exact if_pos (by rcases G with h|h|h|h<;>simp[h])
     repeat (first
      |refine g1 ?_
      |((first|refine g2 ?_ |((with_reducible apply dX 21 eG);refine dY mixed ?_)|((with_reducible apply dX 23 eF);refine dY mixed ?_)|((with_reducible apply dX 24 eE);refine dY mixed ?_)|((with_reducible apply dX 26 eD);refine dY mixed ?_)|((with_reducible apply dX 27 eC);refine dY mixed ?_)|((with_reducible apply dX 30 cg);refine dY mixed ?_)|((with_reducible apply dX 34 dI);refine dY mixed ?_)|((with_reducible apply aj.id);first|apply aj.aL (e8 _ _ _ ⟨gt,by show N.length<= _;omega,by show BB.length<= _;omega,by show CO.length<= _;omega⟩ G)));simp-implicitDefEqProofs [cc,p5,p6,ae,au])
      |(refine g3 ?_;try simp-implicitDefEqProofs [cc,p5,p6,ae,au]))
     exact⟨fV (by decide) hS,b2⟩
    .refine gO cJ (j5 @cc @p5 @p6 @ae @au) tI ?_;have e3:∀n1 n2 n3 k,(St.fu (W,false) (N,n1) (BB,n2) (CO,n3) k).1=St.fu W N BB CO k:=λn1 n2 n3 k=>St.z7 Prod.fst (W,false) (N,n1) (BB,n2) (CO,n3) k;refine aj.of (e7 _ _ _ ?_) ?_ (λ_ _ h=>h.elim)
     .intro j;rw[e3];simp only[not_or,Nat.not_lt]at G;unfold St.fu;split
      .exact G.1
      .exact G.2.1
      .exact G.2.2.1
      .exact G.2.2.2
     .simp only[e3];intro r σ' g6;rcases g6 with⟨hb,rfl,rfl⟩|⟨hb,tk,f9,rfl,rfl⟩
      .have hS:dc g=([],4):=by rw[ee,pP];exact if_pos (.inr (.inr (.inr (.inr hb))))
       simp-implicitDefEqProofs [ae,au];refine gO cJ (j2 @ae @au) tI ?_;exact⟨fV (by decide) hS,b2⟩
      .have hS:dc g=(St.jR (λk=>St.fu W N BB CO k),0):=by rw[ee,pP];exact if_neg (by simp only[not_or]at G|-;exact⟨G.1,G.2.1,G.2.2.1,G.2.2.2,hb⟩)
       simp-implicitDefEqProofs [ae,au];refine gO cJ (j2 @ae @au) tI ?_;unfold wm;rw[hS];exact⟨dt (by simp) (by simp),AS.le_trans b2 (AS.ao (lR _) f9)⟩
   .have g5:dc g=([],4):=by unfold dc;rw[if_neg (by simp[hF]),if_neg (by simp[cd]),if_neg (by simp[a1]),if_pos b1]
    simp-implicitDefEqProofs [ae,au];refine gO cJ (j2 @ae @au) tI ?_;exact⟨fV (by decide) g5,AS.le_trans ft (AS.ao (lR _) ci)⟩
   .rw[gc]at hW;cases hW
 .obtain⟨gs,gn⟩:=IK a1;rw[gs]at I;have hS:dc g=([],4):=by unfold dc;rw[if_neg (by simp[hF]),if_neg (by simp[cd]),if_pos a1,gn]
  refine gO cJ @q4 @ar ?_;intro id5 L;have ay.sid_id5:¬k.aF=id5:=nq q4 L;have O.aF:=ba ay.sid_id5;refine gO cJ (j3 @q4 O.aF ay.sid_id5) @I ?_;intro id6 u am;have ai:=ba u;have cj:c4 id6=none:=by simpa[AS.set,u]using am
  refine gO cJ (j4 O.aF ay.sid_id5 @q4 u) tI ?_;exact⟨fV (by decide) hS,AS.le_trans (AS.le_trans cv h4.le) (AS.ao (AS.ao (lR _) L) cj)⟩
end Im
end Go.Proofs.YtknalmoackcpbaaGreat
