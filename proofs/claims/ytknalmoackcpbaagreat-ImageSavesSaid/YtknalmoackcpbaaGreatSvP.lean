/- Package pool: Blobs, of as many as there may be. -/
import Derived.Test.YtknalmoackcpbaaGreatDv7
set_option maxRecDepth 100000
set_option maxHeartbeats 3200000
set_option linter.all false
open Go Go.AW
namespace Go.Proofs.YtknalmoackcpbaaGreat
namespace Pl
open Tryz
def bV (x:zY×Bool):AV:= .ah 5 (x.1.map u8) .aJ x.2
def jM (s:zY):zY:=bG s.length++s
theorem di (n:Int) (h0:0<=n) (h1:n<=536870911):1<=(bG n).length∧(bG n).length<=4:=by unfold bG;rw[fA];rcases sB n h0 h1 with⟨_,h⟩|⟨_,_,h⟩|⟨_,_,h⟩<;>rw[h]<;>decide
theorem FJ (j:zY) (x:zY×Bool) (o:cA) (aF:Nat) (σ0 σ:AS) (A:PS o j.length σ0 σ) (q:σ0 aF=some (.cells 30 [bV x])) (h1:j.length<=1000000) (G:x.1.length<=1000):
 ad prog 72 [.ah 5 (j.map u8) o false,.ptr aF 0] σ (gy (λn=> .ah 5 ((j++jM x.1).map u8) (.tok n) false) (j++jM x.1).length σ0) No:=by
 have v:=A.le aF _ q;have u:=λσ=>mT j o false (by simp) h1 x.1.length (by omega) (by omega) σ;have w:=di x.1.length (by omega) (by omega);generalize E:bG x.1.length=P at u w;have F:jM x.1=P++x.1:=by rw[jM,E]
 rw[F];refine ad.ob func72 ?_;refine gO aa (j2 @v @bV.eq_1) @u ?_;intro n l;have n1:¬aF=n:=nq v l;refine gO aa (j3 @v @bV.eq_1 @n1) tI ?_;have h0:σ0 n=none:=by
  cases D:σ0 n with
  |none=>rfl
  |some y=>rw[A.le _ _ D]at l;cases l
 refine aW n h0 (du (by first|rfl|simp)) ?_;exact dP A.le (by first|omega|(simp;omega))
def oL:List (zY)->zY->List (zY×Nat)->zY×List (zY×Nat)
 |[],p,d=>(p,d)
 |s::r,p,d=>match cF s (([],0)::d)with
  |some a=>oL r p (d++ [(s,a)])
  |none=>oL r (p++jM s) (d++ [(s,p.length)])
theorem vM:∀(r:List (zY)) (p:zY) (d:List (zY×Nat)),p.length<=(oL r p d).1.length
 |[],p,d=>Nat.le_refl _
 |s::r,p,d=>by
  simp only[oL];split
  .exact vM r p _
  .have:=vM r (p++jM s) (d++ [(s,p.length)]);rw[List.length_append]at this;omega
theorem uf:∀(l:List (zY)) (p:zY) (d:List (zY×Nat)),(oL l p d).2.length=d.length+l.length
 |[],p,d=>rfl
 |s::r,p,d=>by
  simp only[oL];split
  .rw[uf];simp;omega
  .rw[uf];simp;omega
theorem tK:∀(l:List (zY)) (p:zY) (d:List (zY×Nat)),(qh l p d).2.length=d.length+l.length
 |[],p,d=>rfl
 |s::r,p,d=>by
  simp only[qh];split
  .rw[tK];simp;omega
  .rw[tK];simp;omega
def bD (l:List (zY)):zY×List Int×Int:=
 if 65536<(oL l [0] []).1.length then([],[],4)else((oL l [0] []).1,(oL l [0] []).2.map (λp=>(p.2:Int)),0)
def ND (l:List (zY)):AV:= .cp [.ah 5 ((bD l).1.map u8) .aJ (decide (65536<(oL l [0] []).1.length)),.ah 3 ((bD l).2.1.map bg) .aJ (decide (65536<(oL l [0] []).1.length∨l= [])),zI ((bD l).2.2)]
theorem AY {l:List (zY)}(h:65536<(oL l [0] []).1.length):AV.Wk prog (.cp [.aC,.aC,zI 4]) (ND l):=by unfold ND bD;rw[if_pos h];exact ui (by simp[h]) (by simp[h]) (by simp)
def SP (l:List (zY×Bool)) (nl:Bool) (v:cA) (B:AS) (j b9:Nat) (m:Nat) (fr:Fr) (σ':AS):Prop:=
 ∃(i:Nat) (p:zY) (d:List (zY×Nat)) (o:cA) (n:List (ByteArray×AV)) (u:AS) (pl:AV),m=l.length-i∧i<=l.length∧oL ((l.drop i).map (·.1)) p d=oL (l.map (·.1)) [0] []∧d.length=i∧p.length<=65536∧
  (∀s:zY,fH ⟨s.toArray⟩ n=(cF s (([],0)::d)).map (λa=>zI (a:Int)))∧
  ((i=0∧pl= .aC∧u=(B.set b9 (.map (cx n))).set j (fJ p o b9))∨(∃q,0<i∧B q=none∧q≠j∧q≠b9∧pl=fg d (.tok q)∧u=((B.set b9 (.map (cx n))).set j (fJ p o b9)).set q (.tok i)))∧
  PS o p.length u σ'∧fr=gD [(5,.ptr j 0),(6,pl),(14,.ah 30 (l.map bV) v nl),(15,zI l.length),(16,zI i)]
theorem FI (l:List (zY×Bool)) (nl:Bool) (o0:cA) (hl:l.length<=100000) (hs:∀s∈l,s.1.length<=300) (σ:AS):
 ad prog 30 [.ah 30 (l.map bV) o0 nl] σ (aq (ND (l.map (·.1))) σ) No:=by
 refine ad.ob func30 ?_;refine gO (S:= [2]) aa tI tI ?_;refine aj.of (AA _) ?_ (λ_ _ h=>h.elim);rintro r d9 ⟨n,b9,db,ap,w,rfl,rfl⟩;simp-implicitDefEqProofs;have V:b9≠n:=λe=>w e.symm;refine gO (S:= [2]) aa tI tI ?_
 with_reducible apply aA.dB
 refine bQ.first 4 ?_;simp-implicitDefEqProofs [fJ,w,V];refine bQ.sp rfl (iD.mapUpdate b9 ⟨[].toArray⟩ [] underlying129 underlying9 (by simp) (by simp) (by simp[AS.set,w,V]) ?_);refine bQ.rest ?_;simp-implicitDefEqProofs;refine gO aa tI tI ?_;refine aA.cz (SP l nl o0 σ n b9) (k0:=l.length) ⟨0,[0],[],.full,ja ⟨[].toArray⟩ (zI 0) [],_,_,by omega,by omega,rfl,rfl,by simp,?_,.inl ⟨rfl,rfl,rfl⟩,.inl ⟨rfl,rfl⟩,rfl⟩ (aP.mk (by simp)) ?_ ?_
 .intro s;by_cases h:s= []<;>simp[ja,fH,cF,h]<;>(intro e;exact h (by simpa using(congrArg ByteArray.data e:s.toArray= #[])))
 .intro j x hx;by_cases a1:j=b9
  .subst a1;simp[AS.set,fJ,V]at hx|-;exact hx
  .by_cases a2:j=n
   .subst a2;simp[AS.set,fJ,w]at hx|-;exact hx
   .simp[AS.set,a1,a2]at hx|-;exact hx
 rintro m fr σ' ⟨i,p,d,o,E,C0,pl,hm,hi,P,hd,hp,hk,T,ak,rfl⟩;have X:b9≠n:=λe=>w e.symm;have Q:C0 n=some (fJ p o b9)∧C0 b9=some (.map (cx E)):=by
  rcases T with⟨_,_,rfl⟩|⟨u,_,ht,Z,q2,_,rfl⟩
  .simp[w,X]
  .simp[w,X,Z.symm,q2.symm]
 have hle:=ak.le;have I:=hle _ _ Q.1;have al:=hle _ _ Q.2;have a3:∀q:zY,q.length<=65536->(65536<(q.length:Int))=False:=by intro q h1;simp;omega
 by_cases b4:i<l.length
 .obtain⟨x,hg,ax,b3,_⟩:=dK l b4;obtain⟨s,sn⟩:=x;obtain⟨_,c5⟩:=List.getElem?_eq_some_iff.1 hg;have hI:((i:Int)<l.length)=True:=by simp;omega
  have eo:s.length<=300:=hs _ b3;have c1:(65536<(s.length:Int))=False:=by simp;omega
  have em:s.length<=140737488355328:=by omega
  rw[ax,List.map_cons]at P;simp only[oL]at P;refine gO aa (j4 hI b4 @c5 @bV.eq_1) tI ?_;intro aF D;have s1:aF≠n:=nq I D;have s2:aF≠b9:=nq al D;have ab:n≠aF:=λe=>s1 e.symm;have bv:b9≠aF:=λe=>s2 e.symm;refine gO aa (j2 @c1 @FU) tI ?_;have ar:=ak.put (b:= .cells 30 [bV (s,sn)]) (.inl D);have O:∀(a u:Nat),cF s (([],0)::d)=some a->oL ((l.drop (i+1)).map (·.1)) p (d++ [(s,a)])=oL (l.map (·.1)) [0] []->σ u=none->u≠n->u≠b9->PS o p.length (((σ.set b9 (.map (cx E))).set n (fJ p o b9)).set u (.tok (i+1))) (σ'.set u (.tok (i+1)))->
   ∀(fr:Fr) (K:AS),aP prog fr (gD [(5,.ptr n 0),(6,fg (d++ [(s,a)]) (.tok u)),(14,.ah 30 (l.map bV) o0 nl),(15,zI l.length),(16,zI (i+1:Nat))])->AS.le (σ'.set u (.tok (i+1))) K->xl prog (SP l nl o0 σ n b9) m fr K:=by
   intro a u v a4 h1 h2 h3 h4 fr K h5 h6;refine⟨m-1,_,_,by clear T;omega,h5,h6,i+1,p,d++ [(s,a)],o,E,_,_,by clear T;omega,by clear T;omega,a4,by simp[hd],by clear T;omega,?_,.inr ⟨u,by omega,h1,h2,h3,rfl,rfl⟩,h4,rfl⟩;intro s';rw[hk,<-List.cons_append,o7];by_cases e:s'=s
   .subst e;rw[v]
   .cases h:cF s' (([],0)::d)<;>simp[e]
  have J:∀(A u:Nat),cF s (([],0)::d)=none->oL ((l.drop (i+1)).map (·.1)) (p++jM s) (d++ [(s,p.length)])=oL (l.map (·.1)) [0] []->σ u=none->u≠n->u≠b9->σ A=none->A≠u->A≠n->A≠b9->(p++jM s).length<=65536->
   ∀(fr:Fr) (K:AS),aP prog fr (gD [(5,.ptr n 0),(6,fg (d++ [(s,p.length)]) (.tok u)),(14,.ah 30 (l.map bV) o0 nl),(15,zI l.length),(16,zI (i+1:Nat))])->
    AS.le ((((σ.set b9 (.map (cx (ja ⟨s.toArray⟩ (zI p.length) E)))).set n (fJ (p++jM s) (.tok A) b9)).set u (.tok (i+1))).set A (.tok (p++jM s).length)) K->xl prog (SP l nl o0 σ n b9) m fr K:=by
   intro A u v a4 h1 h2 h3 k1 k2 k3 k4 hlen fr K h5 h6;refine⟨m-1,_,_,by clear T;omega,h5,h6,i+1,p++jM s,d++ [(s,p.length)],.tok A,_,_,_,by clear T;omega,by clear T;omega,a4,by simp[hd],hlen,?_,.inr ⟨u,by omega,h1,h2,h3,rfl,rfl⟩,.inr ⟨A,rfl,by simp[AS.set, *],rfl⟩,rfl⟩;intro s';rw[xz,<-List.cons_append,o7];by_cases e:s'=s
   .subst e;rw[v];simp
   .have:¬((⟨s'.toArray⟩:ByteArray)=⟨s.toArray⟩):=by simpa using e
    rw[if_neg this,hk];cases h:cF s' (([],0)::d)<;>simp[e]
  cases v:cF s (([],0)::d)with
  |some a=>
   rw[v]at P;refine aj.aL (Dk n b9 p s o E a _ _ (by simp[ab,I]) (by simp[bv,al]) (by rw[hk,v];rfl)) ?_;have H:=a3 p hp;have am:p.length<=140737488355328:=by omega
   simp only[fJ]at I;rcases T with⟨h0,rfl,rfl⟩|⟨u,b5,av,Z,q2,rfl,rfl⟩
   .have ay:d= []:=List.length_eq_zero_iff.1 (by omega);subst ay;simp-implicitDefEqProofs;intro u;intros;have u4:σ' u=none:=by assumption
    have u5:u≠aF:=by assumption
    have eb:aF≠u:=λe=>u5 e.symm;have u6:((σ.set b9 (.map (cx E))).set n (fJ p o b9)) u=none:=by
     cases hh:((σ.set b9 (.map (cx E))).set n (fJ p o b9)) u with
     |none=>rfl
     |some y=>rw[hle _ _ hh]at u4;cases u4
    have u7:u≠n:=by rintro rfl;simp at u6
    have u8:u≠b9:=by rintro rfl;simp[X]at u6
    have u9:σ u=none:=by simpa[AS.set,u7,u8]using u6
    have cc:n≠u:=λe=>u7 e.symm;refine gO aa (j4 @I @cc @ab @H) tI ?_;have ai:=ak.put (i:=u) (b:= .tok (i+1)) (.inl u4);refine O a u v P u9 u7 u8 ai _ _ (aP.mk ?_) ?_
    .simp[dv (show i<4000000000000000000 by omega),fg,bV]
    .exact dP (aw D (lR _)) (by simp[h0])
   .have ht:σ' u=some (.tok i):=hle u _ (by simp[AS.set]);have s3:aF≠u:=nq ht D;have cv:u≠aF:=λe=>s3 e.symm;have af:n≠u:=λe=>Z e.symm;simp-implicitDefEqProofs [fg,ht,hd,s3,cv];refine⟨by omega,?_⟩;refine gO aa (j4 @I @af @ab @H) tI ?_;have ai:=ak.put (i:=u) (b:= .tok (i+1)) (.inr ⟨_,by simp[AS.set];rfl⟩);rw[AS.set_set]at ai;refine O a u v P av Z q2 ai _ _ (aP.mk ?_) ?_
    .simp[dv (show i<4000000000000000000 by omega),fg,bV]
    .exact dP (aw D (lR _)) (by simp[hd])
  |none=>
   rw[v]at P;have et:=di s.length (by omega) (by omega);have b6:(p++jM s).length<=65536+304:=by simp[jM];omega
   have L:65536<(p++jM s).length->65536<(oL (l.map (·.1)) [0] []).1.length:=λh=>by rw[<-P];exact Nat.lt_of_lt_of_le h (vM _ _ _)
   have am:(p++jM s).length<=140737488355328:=by omega
   have c2:=Dj n b9 p (p++jM s) s o E 72 [.ptr aF 0] (C0.set aF (.cells 30 [bV (s,sn)])) _ w (by simp[ab,Q.1]) (by simp[bv,Q.2]) ar (by rw[hk,v];rfl) (by omega)
    (FJ p (s,sn) o aF _ _ ar (by simp) (by omega) (by simp;omega))
   refine aj.of c2 ?_ (λ_ _ h=>h.elim);generalize e3:p++jM s=pe at am b6 L J P;rintro r d8 ⟨A,b1,rfl,rfl⟩;have t1:A≠aF:=by rintro rfl;simp[AS.set]at b1
   have ej:aF≠A:=λe=>t1 e.symm;have G:C0 A=none:=by simpa[AS.set,t1]using b1
   have t2:A≠n:=by rintro rfl;rw[Q.1]at G;cases G
   have t3:A≠b9:=by rintro rfl;rw[Q.2]at G;cases G
   have ei:n≠A:=λe=>t2 e.symm;have eg:b9≠A:=λe=>t3 e.symm;have F:C0 aF=none:=by
    cases hh:C0 aF with
    |none=>rfl
    |some x=>rw[hle _ _ hh]at D;cases D
   rcases T with⟨h0,rfl,rfl⟩|⟨u,b5,av,Z,q2,rfl,rfl⟩
   .have M:σ aF=none:=by simpa[AS.set,s1,s2]using F
    have Y:σ A=none:=by simpa[AS.set,t2,t3]using G
    have ay:d= []:=List.length_eq_zero_iff.1 (by omega);subst ay;simp-implicitDefEqProofs;intro u;intros;have u1:u≠b9:=by assumption
    have u2:u≠n:=by assumption
    have u3:u≠A:=by assumption
    have u5:σ u=none:=by assumption
    have be:A≠u:=λe=>u3 e.symm;have bf:n≠u:=λe=>u2 e.symm;have ee:b9≠u:=λe=>u1 e.symm;by_cases a0:65536<pe.length
    .have H:(65536<(pe.length:Int))=True:=eq_true (by omega);refine gO aa (j4 @fJ.eq_1 @bf @w @H) tI ?_;refine⟨AY (L a0),?_⟩;repeat (first|exact lR _ |refine AS.ao ?_ (by assumption))
    have U:pe.length<=65536:=by omega
    have H:=a3 pe U;refine gO aa (j4 @fJ.eq_1 @bf @w @H) tI ?_;refine J A u v P u5 u2 u1 Y be t2 t3 U _ _ (aP.mk ?_) ?_
    .simp[dv (show i<4000000000000000000 by omega),fg,bV]
    .have:=HT (B:=σ) (a:= .tok pe.length) (b:= .tok (i+1)) (c:=fJ pe (.tok A) b9) (d:= .map (cx (ja ⟨s.toArray⟩ (zI p.length) E))) (c0:=fJ p o b9) (d0:= .map (cx E)) (e:= .cells 30 [bV (s,sn)]) be t2 t3 u2 u1 w M s1 s2;simpa[h0,fJ,bV]using this
   .have M:σ aF=none:=by
     have b2:aF≠u:=by rintro rfl;simp[AS.set]at F
     simpa[AS.set,s1,s2,b2]using F
    have t4:A≠u:=by rintro rfl;simp[AS.set]at G
    have cs:u≠A:=λe=>t4 e.symm;have Y:σ A=none:=by simpa[AS.set,t2,t3,t4]using G
    have s3:u≠aF:=by rintro rfl;simp[AS.set]at F
    have af:n≠u:=λe=>Z e.symm;have ek:b9≠u:=λe=>q2 e.symm;simp-implicitDefEqProofs [fg,Z,q2,cs,s3,hd];refine⟨by omega,?_⟩;by_cases a0:65536<pe.length
    .have H:(65536<(pe.length:Int))=True:=eq_true (by omega);refine gO aa (j4 @fJ.eq_1 @af @w @H) tI ?_;refine⟨AY (L a0),?_⟩;repeat (first|exact lR _ |refine AS.ao ?_ (by assumption))
    have U:pe.length<=65536:=by omega
    have H:=a3 pe U;refine gO aa (j4 @fJ.eq_1 @af @w @H) tI ?_;refine J A u v P av Z q2 Y t4 t2 t3 U _ _ (aP.mk ?_) ?_
    .simp[dv (show i<4000000000000000000 by omega),fg,bV]
    .have:=HS (B:=σ) (a:= .tok pe.length) (b:= .tok (i+1)) (b0:= .tok i) (c:=fJ pe (.tok A) b9) (d:= .map (cx (ja ⟨s.toArray⟩ (zI p.length) E))) (c0:=fJ p o b9) (d0:= .map (cx E)) (e:= .cells 30 [bV (s,sn)]) t4 t2 t3 Z q2 w M s1 s2;simpa[hd,fJ,bV]using this
 .have hI:((i:Int)<l.length)=False:=by simp;omega
  have ax:l.drop i= []:=List.drop_eq_nil_of_le (by omega);rw[ax]at P;simp only[List.map_nil,oL]at P;have c3:¬65536<p.length:=by omega
  have hE:ND (l.map (·.1))= .cp [.ah 5 (p.map u8) .aJ false,.ah 3 (d.map λq=>zI q.2) .aJ (decide (l= [])),zI 0]:=by unfold ND bD;rw[<-P];simp[c3,aG,Function.comp_def]
  rw[hE];repeat (first
   |refine g1 ?_
   |((first|refine g2 ?_ |((with_reducible apply aj.id);first|apply aj.aL (AK n b9 p o _ _ I (by omega) (by omega))));simp-implicitDefEqProofs [hI])
   |(refine g3 ?_;try simp-implicitDefEqProofs [hI]))
  refine⟨ui (by simp) ?_ (by simp),AS.le_trans ?_ hle⟩
  .rcases T with⟨h0,rfl,_⟩|⟨u,b5,_,_,_,rfl,_⟩
   .have h1:d= []:=List.length_eq_zero_iff.1 (by omega);have h2:l= []:=List.length_eq_zero_iff.1 (by omega);subst h1 h2;simp
   .have h2:decide (l= [])=false:=by
     have:l≠ []:=by rintro rfl;simp at hi;omega
     simp[this]
    rw[h2];simp[fg]
  .rcases T with⟨_,_,rfl⟩|⟨u,_,ht,Z,q2,_,rfl⟩
   .exact aw (by simp[*]) (aw ap (lR _))
   .exact aw (by simp[*]) (aw (by simp[*]) (aw ap (lR _)))
theorem dS (S:List Nat):cu prog [(15,(.S 0 (.S 1 (.S 2 (.S 4 (.S 5 (.S 6 (.R 3 (.R 7 (.S 8 .D)))))))))),(19,(.S 0 (.S 2 (.S 3 (.S 4 (.R 1 (.R 5 (.A 6 (.S 7 (.A 8 .D .Z)) .Z))))))))] S:=mixed
theorem uj {P:Program}{a b c q o n:AV}(h1:AV.Wk P a q) (v:AV.Wk P b o) (u:AV.Wk P c n):AV.Wk P (.agg [a,b,c]) (.agg [q,o,n]):=by
 intro G x h;cases h with
 |agg vs l h=>
  refine .agg vs l λi j=> ?_;have:=h i j
  match i,j with
  |0,_ =>exact h1 _ _ this
  |1,_ =>exact v _ _ this
  |2,_ =>exact u _ _ this
def bx (p:zY) (o:cA) (j:Bool) (pl:AV):cL:= .cells 91 [.ah 5 (p.map u8) o j,pl,zI 0]
def Ry (l:List (zY)) (o:cA) (nl:Bool) (id:Nat) (B:AS) (m:Nat) (fr:Fr) (σ':AS):Prop:=
 ∃i:Nat,m=l.length-i∧i<=l.length∧l.all bY=(l.drop i).all bY∧σ'=B∧fr=gD [(0,.ah 9 (l.map sV) o nl),(2,.ptr id 0),(3,zI i)]
def O3 (l:List (zY)) (o:cA) (nl:Bool) (n j tb:Nat) (B:AS) (m:Nat) (fr:Fr) (σ':AS):Prop:=
 ∃(i:Nat) (p:zY) (d:List (zY×Nat)) (pl:AV),m=l.length-i∧i<=l.length∧qh (l.drop i) p d=qh l [0] []∧d.map (·.1)=l.take i∧(∀q∈d,1<=q.2∧q.2<=1000000)∧1<=p.length∧p.length<=1+25*i∧
  ((i=0∧pl= .aC∧σ'=(B.set tb (.tok p.length)).set j (bx p (.tok tb) false pl))∨
   (∃ta,0<i∧B ta=none∧ta≠tb∧ta≠j∧pl=fg d (.tok ta)∧σ'=((B.set tb (.tok p.length)).set j (bx p (.tok tb) false pl)).set ta (.tok i)))∧
  fr=gD [(0,.ah 9 (l.map sV) o nl),(2,.ptr n 0),(4,.ptr j 0),(5,zI i)]
def Rx (l:List (zY)) (s:zY) (d:List (zY×Nat)) (o:cA) (nl:Bool) (q n:Nat) (i:Nat) (B:AS) (m:Nat) (fr:Fr) (σ':AS):Prop:=
 ∃(k j:Nat),m=i-k∧k<=i∧((j=0∧cF s d=cF s (d.drop k))∨(1<=j∧j<=1000000∧cF s d=some j))∧σ'=B∧
  fr=gD [(0,.ah 9 (l.map sV) o nl),(2,.ptr q 0),(4,.ptr n 0),(5,zI i),(6,zI j),(7,zI k)]
theorem Ez (l:List (zY)) (o:cA) (nl:Bool) (hl:l.length<=1000) (hs:∀s∈l,s.length<=140737488355328) (hf:l.all bY=true) (σ:AS):
 ad prog 36 [.ah 9 (l.map sV) o nl] σ (aq (.agg [.ah 5 ((qh l [0] []).1.map u8) .aJ false,.ah 3 ((qh l [0] []).2.map λp=>zI p.2) .aJ (decide (l= [])),zI 0]) σ) No:=by
 have hlen:=yu l [0] [] hf;simp at hlen;refine ad.ob func36 ?_;refine gO dS tI tI ?_;intro id ac;refine gO dS tI tI ?_;refine aA.cz (Ry l o nl id (σ.set id (.cells 91 [.aC,.aC,zI 0]))) (k0:=l.length) ⟨0,by omega,by omega,rfl,rfl,rfl⟩ (aP.mk (by simp)) (lR _) ?_;rintro m fr σ' ⟨i,hm,hi,hA,rfl,rfl⟩;by_cases F:i<l.length
 .obtain⟨s,hg,hd,M,_⟩:=dK l F;obtain⟨_,P⟩:=List.getElem?_eq_some_iff.1 hg;have S:((i:Int)<l.length)=True:=by simp;omega
  have b3:=λσ=>qu s (hs s M) σ;have hb:bY s=true:=List.all_eq_true.1 hf s M;rw[hd,List.all_cons]at hA;rw[hb]at b3 hA;refine gO dS (j4 S F @P @sV.eq_1) @b3 ?_;refine⟨m-1,_,_,by omega,aP.mk ?_,lR _,i+1,by omega,by omega,by rw[hA,Bool.true_and],rfl,rfl⟩;simp[dv (show i<4000000000000000000 by omega),sV]
 .have S:((i:Int)<l.length)=False:=by simp;omega
  refine gO dS S tI ?_;clear hm hi hA F S;intro w v ab;have A:=ba v;refine gO dS tI tI ?_;intro tb u y av;have D:=ba u;have I:=ba y;simp-implicitDefEqProofs [v,A,u,D,y,I];refine gO dS tI tI ?_;have b6:∀x,(σ.set id (.cells 91 [.aC,.aC,zI 0])) x=none-> ¬x=id∧σ x=none:=by intro x h;simp at h;exact h
  have ay:(σ.set id (.cells 91 [.aC,.aC,zI 0])) id=some (.cells 91 [.aC,.aC,zI 0]):=by simp
  have ax:AS.le σ (σ.set id (.cells 91 [.aC,.aC,zI 0])):=aw ac (lR _);have h4:(σ.set id (.cells 91 [.aC,.aC,zI 0])) w=none:=by simp[*]
  have hb:(σ.set id (.cells 91 [.aC,.aC,zI 0])) tb=none:=by simp[*]
  generalize c9:(σ.set id (.cells 91 [.aC,.aC,zI 0]))=B at*;refine aA.cz (O3 l o nl id w tb B) (k0:=l.length) ⟨0,[0],[],_,by omega,by omega,rfl,rfl,by simp,by simp,by simp,.inl ⟨rfl,rfl,rfl⟩,rfl⟩ (aP.mk (by simp)) ?_ ?_
  .intro j x n;by_cases a1:j=w
   .subst a1;simp[AS.set,bx]at n|-;simp[*]
   .by_cases a2:j=tb
    .subst a2;simp[AS.set, *]at n|-;exact n
    .simp[AS.set, *]at n|-;exact n
  rintro m fr σ' ⟨i,p,d,pl,hm,hi,hN,hd,hq,cv,hp,T,rfl⟩;have b4:d.length=i:=by have:=congrArg List.length hd;simpa[hi]using this
  by_cases F:i<l.length
  .obtain⟨s,hg,a9,M,V⟩:=dK l F;obtain⟨_,P⟩:=List.getElem?_eq_some_iff.1 hg;have S:((i:Int)<l.length)=True:=by simp;omega
   have d8:s.length<=24:=by have:=List.all_eq_true.1 hf s M;simp[bY]at this;exact this.2.1
   rw[a9]at hN;simp only[qh]at hN;have K:σ' w=some (bx p (.tok tb) false pl):=by
    rcases T with⟨_,rfl,rfl⟩|⟨ta,_,_,O,J,rfl,rfl⟩
    .simp
    .simp[Ne.symm J]
   have X:0<i-> ∃oo,pl=fg d oo:=by
    intro h;rcases T with⟨h0,_⟩|⟨ta,_,_,O,J,rfl,_⟩
    .omega
    .exact⟨_,rfl⟩
   refine gO dS S tI ?_;refine aA.cz (Rx l s d o nl id w i σ') (k0:=i) ⟨0,0,by omega,by omega,.inl ⟨rfl,by simp⟩,rfl,rfl⟩ (aP.mk (by simp)) (lR _) ?_;rintro m2 fr db ⟨k,H,ei,hk,hL,rfl,rfl⟩;by_cases Z:k<i∧H=0
   .obtain⟨c3,rfl⟩:=Z;have Q:cF s d=cF s (d.drop k):=by
     rcases hL with⟨_,h⟩|⟨h,_⟩
     .exact h
     .omega
    obtain⟨⟨sk,ak⟩,b2,c6,c0,_⟩:=dK d (i:=k) (by omega);have c1:l[k]? =some sk:=by
     have:(d.map (·.1))[k]? =some sk:=by simp[b2]
     rw[hd,List.getElem?_take_of_lt c3]at this;exact this
    obtain⟨bv,am⟩:=List.getElem?_eq_some_iff.1 c1;obtain⟨c4,b1⟩:=List.getElem?_eq_some_iff.1 b2;have hK:((k:Int)<i)=True:=by simp;omega
    obtain⟨oo,cs⟩:=X (by omega);rw[cs]at K;simp only[bx,fg]at K;rw[c6]at Q;simp only[cF]at Q;have c8:=hq _ c0;simp only at c8;by_cases he:sk=s
    .subst he;rw[if_pos rfl]at Q;refine gO dS (j2 (j7 S @hK F @bv @P @am @b1) (j3 @c4 @sV.eq_1 @K)) tI ?_;clear T hL X;refine⟨m2-1,_,_,by omega,aP.mk ?_,lR _,k+1,ak,by omega,by omega,.inr ⟨by omega,by omega,Q⟩,rfl,rfl⟩;simp[dv (show k<4000000000000000000 by omega),sV]
    .rw[if_neg (λe=>he e.symm)]at Q;refine gO dS (j8 S @hK F @bv @P @am @sV.eq_1 @he) tI ?_;clear T hL X;refine⟨m2-1,_,_,by omega,aP.mk ?_,lR _,k+1,0,by omega,by omega,.inl ⟨rfl,Q⟩,rfl,rfl⟩;simp[dv (show k<4000000000000000000 by omega),sV]
   .have a7:((k:Int)<i)=False∨(((k:Int)<i)=True∧((H:Int)=0)=False∧(H=0)=False):=by
     by_cases h:k<i
     .right;refine⟨by simp;omega,by simp;omega,by simp;omega⟩
     .left;simp;omega
    have bs:(H=0∧cF s d=none)∨(1<=H∧H<=1000000∧cF s d=some H):=by
     rcases hL with⟨h,h2⟩|h
     .left;have:d.drop k= []:=List.drop_eq_nil_of_le (by omega);rw[this]at h2;exact⟨h,h2⟩
     .exact .inr h
    clear hL Z;have ai:(k:Int)<i∨ ¬(k:Int)<i:=by omega
    rcases bs with⟨rfl,G⟩|⟨g1,g2,G⟩
    .rw[G]at hN;have L:((k:Int)<i)=False:=by
      rcases a7 with h|⟨_,h,_⟩
      .exact h
      .simp at h
     have ap:∀(ta:Nat) (E:B ta=none) (O:ta≠tb) (J:ta≠w) (fr:Fr) (a5:AS),aP prog fr (gD [(0,.ah 9 (l.map sV) o nl),(2,.ptr id 0),(4,.ptr w 0),(5,zI (i+1:Nat))])->
      AS.le (((B.set tb (.tok (p++s++ [0]).length)).set w (bx (p++s++ [0]) (.tok tb) false (fg (d++ [(s,p.length)]) (.tok ta)))).set ta (.tok (i+1))) a5->xl prog (O3 l o nl id w tb B) m fr a5:=by
      intro ta E O J fr a5 h1 h2;refine⟨m-1,_,_,by clear T;omega,h1,h2,i+1,p++s++ [0],d++ [(s,p.length)],_,by clear T;omega,by clear T;omega,hN,by rw[List.map_append,hd,V];rfl,?_,by clear T;simp;omega,by clear T;simp;omega,.inr ⟨ta,by omega,E,O,J,rfl,rfl⟩,rfl⟩;intro q a8;rcases List.mem_append.1 a8 with h|h
      .exact hq q h
      .simp at h;subst h;clear T;simp;omega
     rcases T with⟨h0,rfl,rfl⟩|⟨ta,b0,E,O,J,rfl,rfl⟩
     .have Y:d= []:=List.length_eq_zero_iff.1 (by omega);subst Y;refine gO dS (j7 S @L F @P @sV.eq_1 @bx.eq_1 u) tI ?_;intro ta;intros;have u1:ta≠w:=by assumption
      have u2:ta≠tb:=by assumption
      have u5:B ta=none:=by assumption
      have ce:w≠ta:=λe=>u1 e.symm;have cc:tb≠ta:=λe=>u2 e.symm;simp-implicitDefEqProofs [u1,u2,ce,cc,v,A,u,D,y,I];refine gO dS tI tI ?_;refine ap ta u5 u2 u1 _ _ (aP.mk ?_) ?_
      .simp[dv (show i<4000000000000000000 by omega),sV]
      .intro j x n;by_cases a1:j=ta
       .subst a1;simp[AS.set,bx,fg, *]at n|-;exact n
       .by_cases a2:j=w
        .subst a2;simp[AS.set,bx,fg, *]at n|-;exact n
        .by_cases a3:j=tb
         .subst a3;simp[AS.set,bx,fg, *]at n|-;exact n
         .simp[AS.set,bx,fg, *]at n|-;exact n
     .have a6:tb≠ta:=λe=>O e.symm;have U:w≠ta:=λe=>J e.symm;refine gO dS (And.intro (j7 S @L F @P @sV.eq_1 @bx.eq_1 @fg.eq_1) (j6 @O @J @a6 @U @b4 u)) tI ?_;refine ap ta E O J _ _ (aP.mk ?_) ?_
      .simp[dv (show i<4000000000000000000 by omega),sV]
      .intro j x n;by_cases a1:j=ta
       .subst a1;simp[AS.set,bx,fg, *]at n|-;exact n
       .by_cases a2:j=w
        .subst a2;simp[AS.set,bx,fg, *]at n|-;exact n
        .by_cases a3:j=tb
         .subst a3;simp[AS.set,bx,fg, *]at n|-;exact n
         .simp[AS.set,bx,fg, *]at n|-;exact n
    .rw[G]at hN;have z2:(H=0)=False:=by simp;omega
     rcases T with⟨h0,rfl,rfl⟩|⟨ta,b0,E,O,J,rfl,rfl⟩
     .have Y:d= []:=List.length_eq_zero_iff.1 (by omega);subst Y;simp[cF]at G
     .have a6:tb≠ta:=λe=>O e.symm;have U:w≠ta:=λe=>J e.symm;rcases ai with ai|ai;all_goals
       refine gO dS (j7 @ai @z2 @bx.eq_1 @fg.eq_1 @J @U @b4) tI ?_;refine⟨m-1,_,_,by omega,aP.mk (l:= [(0,.ah 9 (l.map sV) o nl),(2,.ptr id 0),(4,.ptr w 0),(5,zI (i+1:Nat))]) ?_,?_,i+1,p,d++ [(s,H)],_,by omega,by omega,hN,by rw[List.map_append,hd,V];rfl,?_,cv,by omega,.inr ⟨ta,by omega,E,O,J,rfl,rfl⟩,rfl⟩
       .simp[dv (show i<4000000000000000000 by omega),sV]
       .intro j x n;by_cases a1:j=ta
        .subst a1;simp[AS.set,bx,fg, *]at n|-;exact n
        .by_cases a2:j=w
         .subst a2;simp[AS.set,bx,fg, *]at n|-;exact n
         .by_cases a3:j=tb
          .subst a3;simp[AS.set,bx,fg, *]at n|-;exact n
          .simp[AS.set,bx,fg, *]at n|-;exact n
       .intro q a8;rcases List.mem_append.1 a8 with h|h
        .exact hq q h
        .simp at h;subst h;exact⟨g1,g2⟩
  .have S:((i:Int)<l.length)=False:=by simp;omega
   have a9:l.drop i= []:=List.drop_eq_nil_of_le (by omega);rw[a9]at hN;simp only[qh]at hN;rw[<-hN]at hlen|-;simp only at hlen|-;have ar:(65536<(p.length:Int))=False:=by simp;omega
   rcases T with⟨h0,rfl,rfl⟩|⟨ta,b0,E,O,J,rfl,rfl⟩
   .have Y:d= []:=List.length_eq_zero_iff.1 (by omega);have c2:l= []:=List.length_eq_zero_iff.1 (by omega);subst Y c2;subst h0;clear S;refine gO dS (j5 @bx.eq_1 @ar @ay v y) tI ?_;refine⟨uj (by simp) (by simp) (by simp),?_⟩;intro j x n;have a0:j≠id:=nq ac n;have a2:j≠w:=nq ab n;have a3:j≠tb:=nq av n;have:=ax j x n;simp[AS.set, *]
   .have a6:tb≠ta:=λe=>O e.symm;have U:w≠ta:=λe=>J e.symm;have q3:ta≠id:=(b6 ta E).1;have cj:id≠ta:=λe=>q3 e.symm;refine gO dS (And.intro (j7 S @bx.eq_1 @fg.eq_1 @ar @ay @U @cj) (j2 v y)) tI ?_;have h2:decide (l= [])=false:=by
     have:l≠ []:=by rintro rfl;simp at hi;omega
     simp[this]
    rw[h2];refine⟨uj (by simp) (by simp) (by simp),?_⟩;intro j x n;have a0:j≠id:=nq ac n;have a2:j≠w:=nq ab n;have a3:j≠tb:=nq av n;have a1:j≠ta:=by rintro rfl;rw[(b6 _ E).2]at n;cases n
    have:=ax j x n;simp[AS.set, *]
theorem cf (S:List Nat):cu prog [(12,(.S 0 (.S 1 (.S 2 (.S 4 (.S 5 (.S 6 (.R 3 (.R 7 (.A 8 .D .Z)))))))))),(16,(.S 0 (.S 2 (.S 3 (.S 4 (.R 5 (.R 6 (.A 1 (.A 7 (.A 8 (.S 9 (.A 10 .D .Z)) .Z) .Z) (.A 7 (.R 1 (.A 8 (.S 9 (.A 10 .D .Z)) .Z)) .Z))))))))),(17,(.S 0 (.S 2 (.S 3 (.S 4 (.R 1 (.R 5 (.A 6 (.S 7 (.A 8 .D .Z)) .Z))))))))] S:=mixed
def RJ (q:zY×Nat):Prop:=(q.1= []->q.2=0)∧(q.1≠ []->1<=q.2)∧q.2<=1000000
def MJ (l:List (zY×Bool)) (o:cA) (nl:Bool) (n j tb:Nat) (B:AS) (m:Nat) (fr:Fr) (σ':AS):Prop:=
 ∃(i:Nat) (p:zY) (d:List (zY×Nat)) (pl:AV),m=l.length-i∧i<=l.length∧oL ((l.drop i).map (·.1)) p d=oL (l.map (·.1)) [0] []∧d.map (·.1)=(l.take i).map (·.1)∧(∀q∈d,RJ q)∧1<=p.length∧p.length<=65536∧
  ((i=0∧pl= .aC∧σ'=(B.set tb (.tok p.length)).set j (bx p (.tok tb) false pl))∨
   (∃ta,0<i∧B ta=none∧ta≠tb∧ta≠j∧pl=fg d (.tok ta)∧σ'=((B.set tb (.tok p.length)).set j (bx p (.tok tb) false pl)).set ta (.tok i)))∧
  fr=gD [(0,.ah 30 (l.map bV) o nl),(2,.ptr n 0),(3,.ptr j 0),(4,zI i)]
def RC (l:List (zY×Bool)) (s:zY) (d:List (zY×Nat)) (o:cA) (nl:Bool) (q n:Nat) (i:Nat) (B:AS) (m:Nat) (fr:Fr) (σ':AS):Prop:=
 ∃(k j:Nat),m=i-k∧k<=i∧((j=0∧(s≠ []->cF s d=cF s (d.drop k)))∨(1<=j∧j<=1000000∧s≠ []∧cF s d=some j))∧σ'=B∧
  fr=gD [(0,.ah 30 (l.map bV) o nl),(2,.ptr q 0),(3,.ptr n 0),(4,zI i),(5,zI j),(6,zI k)]
theorem CF:∀(l:List (zY)) (p:zY) (d:List (zY×Nat)),p.length<=(oL l p d).1.length
 |[],p,d=>by simp[oL]
 |s::r,p,d=>by
  unfold oL;split
  .exact CF r _ _
  .exact Nat.le_trans (by simp) (CF r _ _)
def yV (l:List (zY)):AV:=if 65536<(oL l [0] []).1.length then .agg [.aC,.aC,zI 4]else
 .agg [.ah 5 ((oL l [0] []).1.map u8) .aJ false,.ah 3 ((oL l [0] []).2.map λp=>zI p.2) .aJ (decide (l= [])),zI 0]
theorem IJ {l:List (zY)}{p:zY}{r:List (zY)}{d:List (zY×Nat)}(h:oL r p d=oL l [0] []) (j:65536<p.length):yV l= .agg [.aC,.aC,zI 4]:=by have:=CF r p d;rw[h]at this;unfold yV;rw[if_pos (by omega)]
theorem KW {l:List (zY)}{p:zY}{d:List (zY×Nat)}(h:(p,d)=oL l [0] []) (j:p.length<=65536):yV l= .agg [.ah 5 (p.map u8) .aJ false,.ah 3 (d.map λp=>zI p.2) .aJ (decide (l= [])),zI 0]:=by unfold yV;rw[<-h,if_neg (by simp only;omega)]
theorem B0 (l:List (zY×Bool)) (o:cA) (nl:Bool) (hl:l.length<=100000) (hs:∀s∈l,s.1.length<=300) (σ:AS):
 ad prog 37 [.ah 30 (l.map bV) o nl] σ (aq (yV (l.map (·.1))) σ) No:=by
 refine ad.ob func37 ?_;refine gO cf tI tI ?_;intro id a5;refine gO cf tI tI ?_;intro A n av;have E:=ba n;refine gO cf tI tI ?_;intro tb u v b0;have F:=ba u;have G:=ba v;simp-implicitDefEqProofs [n,E,u,F,v,G];refine gO cf tI tI ?_;have V:∀x,(σ.set id (.cells 91 [.aC,.aC,zI 0])) x=none-> ¬x=id∧σ x=none:=by intro x h;simp at h;exact h
 have b2:(σ.set id (.cells 91 [.aC,.aC,zI 0])) id=some (.cells 91 [.aC,.aC,zI 0]):=by simp
 have b1:AS.le σ (σ.set id (.cells 91 [.aC,.aC,zI 0])):=aw a5 (lR _);have h4:(σ.set id (.cells 91 [.aC,.aC,zI 0])) A=none:=by simp[*]
 have hb:(σ.set id (.cells 91 [.aC,.aC,zI 0])) tb=none:=by simp[*]
 generalize f7:(σ.set id (.cells 91 [.aC,.aC,zI 0]))=B at*;refine aA.cz (MJ l o nl id A tb B) (k0:=l.length) ⟨0,[0],[],_,by omega,by omega,rfl,rfl,by simp,by simp,by simp,.inl ⟨rfl,rfl,rfl⟩,rfl⟩ (aP.mk (by simp)) ?_ ?_
 .intro j x D;by_cases a1:j=A
  .subst a1;simp[AS.set,bx]at D|-;simp[*]
  .by_cases a2:j=tb
   .subst a2;simp[AS.set, *]at D|-;exact D
   .simp[AS.set, *]at D|-;exact D
 rintro m fr σ' ⟨i,p,d,pl,hm,hi,hN,hd,hq,e2,hp,Q,rfl⟩;have c4:d.length=i:=by have:=congrArg List.length hd;simpa[hi]using this
 have f6:∀q:zY,q.length<=65536->i<l.length->(65536<(q.length:Int))=False:=by intro q h1 h2;simp;omega
 by_cases O:i<l.length
 .obtain⟨x,hg,eg,e3,eb⟩:=dK l O;obtain⟨s,sn⟩:=x;obtain⟨_,T⟩:=List.getElem?_eq_some_iff.1 hg;have hI:((i:Int)<l.length)=True:=by simp;omega
  have g7:s.length<=300:=hs _ e3;have fk:(65536<(s.length:Int))=False:=by simp;omega
  have g6:s.length<=140737488355328:=by omega
  rw[eg,List.map_cons]at hN;simp only[oL]at hN;have bf:σ' A=some (bx p (.tok tb) false pl):=by
   rcases Q with⟨_,rfl,rfl⟩|⟨ta,_,_,q1,U,rfl,rfl⟩
   .simp
   .simp[Ne.symm U]
  have ch:0<i-> ∃oo,pl=fg d oo:=by
   intro h;rcases Q with⟨h0,_⟩|⟨ta,_,_,q1,U,rfl,_⟩
   .omega
   .exact⟨_,rfl⟩
  refine gO cf (j5 hI O @T @bV.eq_1 @fk) tI ?_;refine aA.cz (RC l s d o nl id A i σ') (k0:=i) ⟨0,0,by omega,by omega,.inl ⟨rfl,by simp⟩,rfl,rfl⟩ (aP.mk (by simp[bV])) (lR _) ?_;rintro m2 fr f8 ⟨k,ai,hh,hk,hL,rfl,rfl⟩;by_cases ci:k<i∧ai=0
  .obtain⟨fz,rfl⟩:=ci;have c8:s≠ []->cF s d=cF s (d.drop k):=by
    rcases hL with⟨_,h⟩|⟨h,_⟩
    .exact h
    .omega
   obtain⟨⟨sk,ak⟩,e7,f4,fv,_⟩:=dK d (i:=k) (by omega);obtain⟨y,e4,_,ea,_⟩:=dK l (i:=k) (by omega);have hy:y.1=sk:=by
    have:(d.map (·.1))[k]? =some sk:=by simp[e7]
    rw[hd,List.getElem?_map,List.getElem?_take_of_lt fz,e4]at this;simpa using this
   obtain⟨bb,fe⟩:=y;simp only at hy;subst hy;obtain⟨e5,db⟩:=List.getElem?_eq_some_iff.1 e4;obtain⟨f0,e6⟩:=List.getElem?_eq_some_iff.1 e7;have hK:((k:Int)<i)=True:=by simp;omega
   obtain⟨oo,c1⟩:=ch (by omega);rw[c1]at bf;simp only[bx,fg]at bf;rw[f4]at c8;simp only[cF]at c8;have c5:=hq _ fv;simp only[RJ]at c5;have et:bb.length<=140737488355328:=by have:=hs _ ea;simp at this;omega
   have am:=λσ=>tD bb s .aJ .aJ fe sn et σ;by_cases he:bb=s
   .subst he;have ei:decide (bb=bb)=true:=by simp
    rw[ei]at am;refine gO cf (j2 (j7 hI @hK O @e5 @T @db @e6) (j3 @f0 @bV.eq_1 @bf)) @am ?_;clear Q hL ch hq V;refine⟨m2-1,_,_,by omega,aP.mk ?_,lR _,k+1,ak,by omega,by omega,?_,rfl,rfl⟩
    .simp[dv (show k<4000000000000000000 by omega),bV]
    .by_cases h0:bb= []
     .exact .inl ⟨c5.1 h0,λh=>absurd h0 h⟩
     .exact .inr ⟨c5.2.1 h0,c5.2.2,h0,by rw[c8 h0,if_pos rfl]⟩
   .have ei:decide (bb=s)=false:=by simp[he]
    rw[ei]at am;refine gO cf (j7 hI @hK O @e5 @T @db @bV.eq_1) @am ?_;clear Q hL ch hq V;refine⟨m2-1,_,_,by omega,aP.mk ?_,lR _,k+1,0,by omega,by omega,.inl ⟨rfl,λh=>by rw[c8 h,if_neg (λe=>he e.symm)]⟩,rfl,rfl⟩;simp[dv (show k<4000000000000000000 by omega),bV]
  .have w:((k:Int)<i)=False∨(((k:Int)<i)=True∧((ai:Int)=0)=False∧(ai=0)=False):=by
    by_cases h:k<i
    .right;refine⟨by simp;omega,by simp;omega,by simp;omega⟩
    .left;simp;omega
   have c6:(k:Int)<i∨ ¬(k:Int)<i:=by omega
   have K:(ai=0∧(s≠ []->cF s d=none))∨(1<=ai∧ai<=1000000∧s≠ []∧cF s d=some ai):=by
    rcases hL with⟨h,h2⟩|h
    .left;have:d.drop k= []:=List.drop_eq_nil_of_le (by omega);rw[this]at h2;exact⟨h,λh=>by rw[h2 h];rfl⟩
    .exact .inr h
   clear hL ci;have e8:∀a:Nat,(d++ [(s,a)]).map (·.1)=(l.take (i+1)).map (·.1):=by intro a;rw[eb,List.map_append,List.map_append,hd];rfl
   have ac:∀(a ta:Nat),cF s (([],0)::d)=some a->RJ (s,a)->B ta=none->ta≠tb->ta≠A-> ∀(fr:Fr) (a9:AS),aP prog fr (gD [(0,.ah 30 (l.map bV) o nl),(2,.ptr id 0),(3,.ptr A 0),(4,zI (i+1:Nat))])->
    AS.le (((B.set tb (.tok p.length)).set A (bx p (.tok tb) false (fg (d++ [(s,a)]) (.tok ta)))).set ta (.tok (i+1))) a9->xl prog (MJ l o nl id A tb B) m fr a9:=by
    intro a ta H ft M q1 U fr a9 h1 h2;rw[H]at hN;refine⟨m-1,_,_,by clear Q K w;omega,h1,h2,i+1,p,d++ [(s,a)],_,by clear Q K w;omega,by clear Q K w;omega,hN,e8 a,?_,e2,by clear Q K w;omega,.inr ⟨ta,by omega,M,q1,U,rfl,rfl⟩,rfl⟩;intro q ec;rcases List.mem_append.1 ec with h|h
    .exact hq q h
    .simp at h;subst h;exact ft
   have b3:∀(ta:Nat),cF s (([],0)::d)=none->s≠ []->B ta=none->ta≠tb->ta≠A-> ∀(fr:Fr) (a9:AS),(p++jM s).length<=65536->aP prog fr (gD [(0,.ah 30 (l.map bV) o nl),(2,.ptr id 0),(3,.ptr A 0),(4,zI (i+1:Nat))])->
    AS.le (((B.set tb (.tok (p++jM s).length)).set A (bx (p++jM s) (.tok tb) false (fg (d++ [(s,p.length)]) (.tok ta)))).set ta (.tok (i+1))) a9->xl prog (MJ l o nl id A tb B) m fr a9:=by
    intro ta H c2 M q1 U fr a9 be h1 h2;rw[H]at hN;refine⟨m-1,_,_,by clear Q K w;omega,h1,h2,i+1,p++jM s,d++ [(s,p.length)],_,by clear Q K w;omega,by clear Q K w;omega,hN,e8 _,?_,by clear Q K w;simp;omega,be,.inr ⟨ta,by omega,M,q1,U,rfl,rfl⟩,rfl⟩;intro q ec;rcases List.mem_append.1 ec with h|h
    .exact hq q h
    .simp at h;subst h;exact⟨λh=>absurd h c2,λ_ =>e2,by clear Q K w;simp;omega⟩
   have ej:=f6 p (by clear Q K w;omega) O;rcases K with⟨rfl,ee⟩|⟨g1,g2,c2,ce⟩
   .have L:((k:Int)<i)=False:=by
     rcases w with h|⟨_,h,_⟩
     .exact h
     .simp at h
    by_cases b6:s= []
    .subst b6;have H:cF [] (([],0)::d)=some 0:=rfl;rcases Q with⟨h0,rfl,rfl⟩|⟨ta,c3,M,q1,U,rfl,rfl⟩
     .have ar:d= []:=List.length_eq_zero_iff.1 (by omega);subst ar;refine gO cf (j6 hI @L O @T @bV.eq_1 @bx.eq_1) tI ?_;intro ta;intros;have u1:ta≠A:=by assumption
      have u2:ta≠tb:=by assumption
      have u5:B ta=none:=by assumption
      have b4:A≠ta:=λe=>u1 e.symm;have cc:tb≠ta:=λe=>u2 e.symm;simp-implicitDefEqProofs [u1,u2,b4,cc,n,E,u,F,v,G];refine gO cf (j2 @b4 @ej) tI ?_;refine ac 0 ta H ⟨λ_ =>rfl,λh=>absurd rfl h,by simp⟩ u5 u2 u1 _ _ (aP.mk ?_) ?_
      .simp[dv (show i<4000000000000000000 by omega),bV]
      .intro j x D;by_cases a1:j=ta
       .subst a1;simp[AS.set,bx,fg, *]at D|-;exact D
       .by_cases a2:j=A
        .subst a2;simp[AS.set,bx,fg, *]at D|-;exact D
        .by_cases a3:j=tb
         .subst a3;simp[AS.set,bx,fg, *]at D|-;exact D
         .simp[AS.set,bx,fg, *]at D|-;exact D
     .have ay:tb≠ta:=λe=>q1 e.symm;have S:A≠ta:=λe=>U e.symm;refine gO cf (j2 (j7 hI @L O @T @bV.eq_1 @bx.eq_1 @fg.eq_1) (j4 @U @S @c4 @ej)) tI ?_;refine ac 0 ta H ⟨λ_ =>rfl,λh=>absurd rfl h,by simp⟩ M q1 U _ _ (aP.mk ?_) ?_
      .simp[dv (show i<4000000000000000000 by omega),bV]
      .intro j x D;by_cases a1:j=ta
       .subst a1;simp[AS.set,bx,fg, *]at D|-;exact D
       .by_cases a2:j=A
        .subst a2;simp[AS.set,bx,fg, *]at D|-;exact D
        .by_cases a3:j=tb
         .subst a3;simp[AS.set,bx,fg, *]at D|-;exact D
         .simp[AS.set,bx,fg, *]at D|-;exact D
    .have H:cF s (([],0)::d)=none:=by simp only[cF];rw[if_neg b6];exact ee b6
     have ap:(0<s.length)=True:=by simpa using List.length_pos_iff.2 b6
     have c1:=di s.length (by omega) (by omega);have ca:=λσ=>ky s.length (by omega) (by omega) σ;have hE:jM s=bG s.length++s:=rfl;have e1:(p++(bG s.length++s)).length=p.length+(bG s.length).length+s.length:=by simp;omega
     have bv:(p++jM s).length=p.length+(bG s.length).length+s.length:=by simp[jM];omega
     have ek:=hN;rw[H]at ek;have dl:=λh=>IJ ek h;rw[bv]at dl;clear ek;by_cases be:(p++jM s).length<=65536
     .rw[bv]at be;have ck:(65536<((p.length+(bG s.length).length+s.length:Nat):Int))=False:=by clear Q w;simp;omega
      have ab:(65536<(p.length:Int)+(((bG s.length).length:Int)+s.length))=False:=by clear Q w;simp;omega
      have cj:(65536<(p.length:Int)+((bG s.length).length:Int)+s.length)=False:=by clear Q w;simp;omega
      rw[<-bv]at be;generalize bG s.length=P at ca c1 hE e1 ck ab cj;have cs:p.length+P.length<=140737488355328:=by clear Q w;omega
      have ax:p.length+P.length+s.length<=140737488355328:=by clear Q w;omega
      rcases Q with⟨h0,rfl,rfl⟩|⟨ta,c3,M,q1,U,rfl,rfl⟩
      .have ar:d= []:=List.length_eq_zero_iff.1 (by omega);subst ar;refine gO cf (j7 hI @L O @T @bV.eq_1 @bx.eq_1 @ap) tI ?_;refine⟨?_,?_⟩;all_goals
        refine aj.py (ca _) (λI J=> ?_);have k1:I≠A:=by rintro rfl;simp[AS.set]at J
        have k2:I≠tb:=by rintro rfl;simp[AS.set,k1]at J
        have Y:A≠I:=λe=>k1 e.symm;have X:tb≠I:=λe=>k2 e.symm;simp-implicitDefEqProofs [k1,k2,Y,X,cs,ax,bx,n,E,u,F,v,G];refine gO cf (And.intro (j7 hI O @T @bV.eq_1 @k1 @k2 @Y) (j3 @X @ax u)) tI ?_;intro ta;intros;have u1:ta≠A:=by assumption
        have u2:ta≠tb:=by assumption
        have u3:ta≠I:=by assumption
        have u5:B ta=none:=by assumption
        have b4:A≠ta:=λe=>u1 e.symm;have cc:tb≠ta:=λe=>u2 e.symm;have d9:I≠ta:=λe=>u3 e.symm;have Z:B I=none:=by simpa[AS.set,k1,k2]using J
        simp-implicitDefEqProofs [u1,u2,b4,cc,u3,d9,n,E,u,F,v,G];refine gO cf (j5 @u1 @k1 @ab n v) tI ?_;refine b3 ta H b6 u5 u2 u1 _ _ be (aP.mk ?_) ?_
        .simp[dv (show i<4000000000000000000 by omega),bV]
        .intro j x D;rw[hE]at D;by_cases a1:j=ta
         .subst a1;simp[AS.set,bx,fg, *]at D|-;exact D
         .by_cases a2:j=A
          .subst a2;simp[AS.set,bx,fg, *]at D|-;exact D
          .by_cases a3:j=tb
           .subst a3;simp[AS.set,bx,fg, *]at D|-;rw[<-D]
           .by_cases a4:j=I
            .subst a4;simp[AS.set,bx,fg, *]at D
            .simp[AS.set,bx,fg, *]at D|-;exact D
      .have ay:tb≠ta:=λe=>q1 e.symm;have S:A≠ta:=λe=>U e.symm;refine gO cf (j2 (j7 hI @L O @T @bV.eq_1 @bx.eq_1 @fg.eq_1) (j2 @S @ap)) tI ?_;refine⟨?_,?_⟩;all_goals
        refine aj.py (ca _) (λI J=> ?_);have k3:I≠ta:=by rintro rfl;simp[AS.set]at J
        have k1:I≠A:=by rintro rfl;simp[AS.set,k3]at J
        have k2:I≠tb:=by rintro rfl;simp[AS.set,k1,k3]at J
        have Y:A≠I:=λe=>k1 e.symm;have X:tb≠I:=λe=>k2 e.symm;have cd:ta≠I:=λe=>k3 e.symm;have Z:B I=none:=by simpa[AS.set,k1,k2,k3]using J
        simp-implicitDefEqProofs [k1,k2,Y,X,cs,ax,bx,q1,U,ay,S,k3,cd,n,E,u,F,v,G];refine gO cf (And.intro (j7 hI O @T @bV.eq_1 @q1 @U @ay) (And.intro (j7 @S @c4 @k1 @k2 @Y @X @ax) (j6 @k3 @cd @ab n u v))) tI ?_;refine b3 ta H b6 M q1 U _ _ be (aP.mk ?_) ?_
        .simp[dv (show i<4000000000000000000 by omega),bV]
        .intro j x D;rw[hE]at D;by_cases a1:j=ta
         .subst a1;simp[AS.set,bx,fg, *]at D|-;exact D
         .by_cases a2:j=A
          .subst a2;simp[AS.set,bx,fg, *]at D|-;exact D
          .by_cases a3:j=tb
           .subst a3;simp[AS.set,bx,fg, *]at D|-;rw[<-D]
           .by_cases a4:j=I
            .subst a4;simp[AS.set,bx,fg, *]at D
            .simp[AS.set,bx,fg, *]at D|-;exact D
     .rw[bv]at be;have ck:(65536<((p.length+(bG s.length).length+s.length:Nat):Int))=True:=by clear Q w;simp;omega
      have ab:(65536<(p.length:Int)+(((bG s.length).length:Int)+s.length))=True:=by clear Q w;simp;omega
      have cj:(65536<(p.length:Int)+((bG s.length).length:Int)+s.length)=True:=by clear Q w;simp;omega
      have e9:=dl (by omega);generalize bG s.length=P at ca c1 hE e1 ck ab cj;have cs:p.length+P.length<=140737488355328:=by clear Q w;omega
      have ax:p.length+P.length+s.length<=140737488355328:=by clear Q w;omega
      rcases Q with⟨h0,rfl,rfl⟩|⟨ta,c3,M,q1,U,rfl,rfl⟩
      .have ar:d= []:=List.length_eq_zero_iff.1 (by omega);subst ar;refine gO cf (j7 hI @L O @T @bV.eq_1 @bx.eq_1 @ap) tI ?_;refine⟨?_,?_⟩;all_goals
        refine aj.py (ca _) (λI J=> ?_);have k1:I≠A:=by rintro rfl;simp[AS.set]at J
        have k2:I≠tb:=by rintro rfl;simp[AS.set,k1]at J
        have Y:A≠I:=λe=>k1 e.symm;have X:tb≠I:=λe=>k2 e.symm;simp-implicitDefEqProofs [k1,k2,Y,X,cs,ax,bx,n,E,u,F,v,G];refine gO cf (And.intro (j7 hI O @T @bV.eq_1 @k1 @k2 @Y) (j3 @X @ax u)) tI ?_;intro ta;intros;have u1:ta≠A:=by assumption
        have u2:ta≠tb:=by assumption
        have u3:ta≠I:=by assumption
        have u5:B ta=none:=by assumption
        have b4:A≠ta:=λe=>u1 e.symm;have cc:tb≠ta:=λe=>u2 e.symm;have d9:I≠ta:=λe=>u3 e.symm;have Z:B I=none:=by simpa[AS.set,k1,k2]using J
        simp-implicitDefEqProofs [u1,u2,b4,cc,u3,d9,n,E,u,F,v,G];refine gO cf (j5 @u1 @k1 @ab n v) tI ?_;have v1:=(V ta u5).1;have v2:=(V I Z).1;have d8:=ba v1;have dn:=ba v2;simp-implicitDefEqProofs [d8,dn,b2,v1,v2,n,E,u,F,v,G];refine gO cf tI tI ?_;refine⟨by rw[e9];exact Wk.refl _,λj x D=> ?_⟩;have a0:j≠id:=nq a5 D;have a2:j≠A:=nq av D;have a3:j≠tb:=nq b0 D;have a1:j≠ta:=by rintro rfl;rw[(V _ u5).2]at D;cases D
        have a4:j≠I:=by rintro rfl;rw[(V _ Z).2]at D;cases D
        simp only[AS.ag _ _ a0,AS.ag _ _ a1,AS.ag _ _ a2,AS.ag _ _ a3,AS.ag _ _ a4];exact b1 j x D
      .have ay:tb≠ta:=λe=>q1 e.symm;have S:A≠ta:=λe=>U e.symm;refine gO cf (j2 (j7 hI @L O @T @bV.eq_1 @bx.eq_1 @fg.eq_1) (j2 @S @ap)) tI ?_;refine⟨?_,?_⟩;all_goals
        refine aj.py (ca _) (λI J=> ?_);have k3:I≠ta:=by rintro rfl;simp[AS.set]at J
        have k1:I≠A:=by rintro rfl;simp[AS.set,k3]at J
        have k2:I≠tb:=by rintro rfl;simp[AS.set,k1,k3]at J
        have Y:A≠I:=λe=>k1 e.symm;have X:tb≠I:=λe=>k2 e.symm;have cd:ta≠I:=λe=>k3 e.symm;have Z:B I=none:=by simpa[AS.set,k1,k2,k3]using J
        simp-implicitDefEqProofs [k1,k2,Y,X,cs,ax,bx,q1,U,ay,S,k3,cd,n,E,u,F,v,G];refine gO cf (And.intro (j7 hI O @T @bV.eq_1 @q1 @U @ay) (And.intro (j7 @S @c4 @k1 @k2 @Y @X @ax) (j6 @k3 @cd @ab n u v))) tI ?_;have v1:=(V ta M).1;have v2:=(V I Z).1;have d8:=ba v1;have dn:=ba v2;simp-implicitDefEqProofs [d8,dn,b2,v1,v2,n,E,u,F,v,G];refine gO cf tI tI ?_;refine⟨by rw[e9];exact Wk.refl _,λj x D=> ?_⟩;have a0:j≠id:=nq a5 D;have a2:j≠A:=nq av D;have a3:j≠tb:=nq b0 D;have a1:j≠ta:=by rintro rfl;rw[(V _ M).2]at D;cases D
        have a4:j≠I:=by rintro rfl;rw[(V _ Z).2]at D;cases D
        simp only[AS.ag _ _ a0,AS.ag _ _ a1,AS.ag _ _ a2,AS.ag _ _ a3,AS.ag _ _ a4];exact b1 j x D
   .have H:cF s (([],0)::d)=some ai:=by simp only[cF];rw[if_neg c2];exact ce
    have z2:(ai=0)=False:=by simp;omega
    rcases Q with⟨h0,rfl,rfl⟩|⟨ta,c3,M,q1,U,rfl,rfl⟩
    .have ar:d= []:=List.length_eq_zero_iff.1 (by omega);subst ar;simp[cF]at ce
    .have ay:tb≠ta:=λe=>q1 e.symm;have S:A≠ta:=λe=>U e.symm;rcases c6 with c6|c6;all_goals
      refine gO cf (j8 @c6 @z2 @bx.eq_1 @fg.eq_1 @U @S @c4 @ej) tI ?_;refine ac ai ta H ⟨λh=>absurd h c2,λ_ =>g1,g2⟩ M q1 U _ _ (aP.mk ?_) ?_
      .simp[dv (show i<4000000000000000000 by omega),bV]
      .intro j x D;by_cases a1:j=ta
       .subst a1;simp[AS.set,bx,fg, *]at D|-;exact D
       .by_cases a2:j=A
        .subst a2;simp[AS.set,bx,fg, *]at D|-;exact D
        .by_cases a3:j=tb
         .subst a3;simp[AS.set,bx,fg, *]at D|-;exact D
         .simp[AS.set,bx,fg, *]at D|-;exact D
 .have hI:((i:Int)<l.length)=False:=by simp;omega
  have eg:l.drop i= []:=List.drop_eq_nil_of_le (by omega);rw[eg]at hN;simp only[List.map_nil,oL]at hN;rw[KW hN hp,show decide (l.map (λx=>x.1)= [])=decide (l= []) by simp];have gl:id≠A:=E;have f3:id≠tb:=G;rcases Q with⟨h0,rfl,rfl⟩|⟨ta,c3,M,q1,U,rfl,rfl⟩
  .have ar:d= []:=List.length_eq_zero_iff.1 (by omega);have fw:l= []:=List.length_eq_zero_iff.1 (by omega);subst ar fw;subst h0;clear hI;refine gO cf (j4 @bx.eq_1 @b2 n v) tI ?_;refine⟨uj (by simp) (by simp) (by simp),?_⟩;intro j x D;have a0:j≠id:=nq a5 D;have a2:j≠A:=nq av D;have a3:j≠tb:=nq b0 D;have:=b1 j x D;simp[AS.set, *]
  .have ay:tb≠ta:=λe=>q1 e.symm;have S:A≠ta:=λe=>U e.symm;have q3:ta≠id:=(V ta M).1;have fi:id≠ta:=λe=>q3 e.symm;refine gO cf (j8 hI @bx.eq_1 @fg.eq_1 @b2 @S @fi n v) tI ?_;have h2:decide (l= [])=false:=by
    have:l≠ []:=by rintro rfl;simp at hi;omega
    simp[this]
   rw[h2];refine⟨uj (by simp) (by simp) (by simp),?_⟩;intro j x D;have a0:j≠id:=nq a5 D;have a2:j≠A:=nq av D;have a3:j≠tb:=nq b0 D;have a1:j≠ta:=by rintro rfl;rw[(V _ M).2]at D;cases D
   have:=b1 j x D;simp[AS.set, *]
end Pl
end Go.Proofs.YtknalmoackcpbaaGreat
