/- Chapter 04: the document's Write. -/
import Derived.Test.YtknalmoackcpbaaGreatIm4
set_option maxRecDepth 100000
set_option maxHeartbeats 3200000
set_option linter.all false
open Go Go.AW
namespace Go.Proofs.YtknalmoackcpbaaGreat
namespace Rw
open Tryz
theorem bo (S:List Nat):cu prog [(9,(.S 0 (.S 2 (.S 5 (.S 9 (.U 10 (.R 1 (.S 3 (.R 4 (.S 6 (.R 7 (.R 8 (.S 11 .D)))))))))))))] S:=mixed
def pQ (R:List (List (List Int))) (en:Int) (σ:AS) (r:AV) (σ':AS):Prop:=
 (dC R=true∧vT (de R en) (okW R en) σ r σ')∨(dC R=false∧aq (.cp [.aC,zI 17]) σ r σ')
theorem pQ.no {R:List (List (List Int))}{en:Int}{σ j:AS}(hf:dC R=true) (h:okW R en=false) (hle:AS.le σ j):AW.Ends prog (pQ R en σ) j (.cp [.aC,zI 3]):=
 ⟨_,σ,Wk.refl _,hle,.inl ⟨hf,.inr ⟨h,rfl,rfl⟩⟩⟩
theorem pQ.arg {R:List (List (List Int))}{en:Int}{σ j:AS}(hf:dC R=false) (hle:AS.le σ j):AW.Ends prog (pQ R en σ) j (.cp [.aC,zI 17]):=
 ⟨_,σ,Wk.refl _,hle,.inr ⟨hf,rfl,rfl⟩⟩
def Uw (R:Br) (j:Nat) (B:AS) (m:Nat) (f:Fr) (σ':AS):Prop:=
 ∃i:Nat,m=6-i∧i<=6∧gG 0 (pl R)=gG i ((pl R).drop i)∧σ'=B∧f=gD [(1,.ptr j 0),(4,zI i)]
def Rz (i:Nat) (x:List (List Int×Bool)×Bool) (X Y:Bool) (j:Nat) (B:AS) (m:Nat) (f:Fr) (σ':AS):Prop:=
 ∃k:Nat,m=x.1.length-k∧k<=x.1.length∧(((jv x).drop k).all (λrow=>decide (row.length=(bS i).length))&&Y)=X∧σ'=B∧
  f=gD [(1,.ptr j 0),(4,zI i),(5,zI k)]
def Rt (R:Br) (l to:Nat) (B:AS) (m:Nat) (f:Fr) (σ':AS):Prop:=
 ∃(i j:Nat),m=6-i∧i<=6∧j+lF i ((pl R).drop i)=lF 0 (pl R)∧j<2^i∧σ'=B.set to (.tok 0)∧
  f=gD [(1,.ptr l 0),(6,.ah 5 [] (.tok to) true),(7,zI j),(8,zI ((2^i:Nat):Int)),(9,zI i)]
def RA (R:Br) (C:zY) (j to:Nat) (B:AS) (m:Nat) (f:Fr) (σ':AS):Prop:=
 ∃(i:Nat) (l:zY),m=6-i∧i<=6∧l++qX ((pl R).drop i)=C∧l.length<=2+2*i∧σ'=B.set to (.tok l.length)∧
  f=gD [(1,.ptr j 0),(6,.ah 5 (l.map u8) (.tok to) false),(10,zI i)]
def UF (R:Br) (ok:Bool) (C:zY) (j to:Nat) (B:AS) (m:Nat) (f:Fr) (σ':AS):Prop:=
 ∃(i:Nat) (l:zY),m=6-i∧i<=6∧ok=allFit i ((pl R).drop i)∧l++iP i ((pl R).drop i)=C∧l.length<=20+600000*i∧σ'=B.set to (.tok l.length)∧
  f=gD [(1,.ptr j 0),(6,.ah 5 (l.map u8) (.tok to) false),(11,zI i)]
def UH (x:List (List Int×Bool)×Bool) (ok o:Bool) (i:Nat) (n C:zY) (j to:Nat) (B:AS) (m:Nat) (f:Fr) (σ':AS):Prop:=
 ∃(k:Nat) (l:zY),m=x.1.length-k∧k<=x.1.length∧ok=(jF i ((jv x).drop k)&&o)∧l++(pR i ((jv x).drop k)++n)=C∧l.length<=20+600000*i+24*k∧σ'=B.set to (.tok l.length)∧
  f=gD [(1,.ptr j 0),(6,.ah 5 (l.map u8) (.tok to) false),(11,zI i),(12,zI k)]
def UG (n:zY) (y:List Int) (ok u:Bool) (i k b0:Nat) (q C:zY) (o to:Nat) (B:AS) (m:Nat) (f:Fr) (σ':AS):Prop:=
 ∃(j:Nat) (l:zY),m=n.length-j∧j<=n.length∧ok=(nZ (n.drop j) (y.drop j)&&u)∧l++(s8 (n.drop j) (y.drop j)++q)=C∧l.length<=b0+4*j∧σ'=B.set to (.tok l.length)∧
  f=gD [(1,.ptr o 0),(6,.ah 5 (l.map u8) (.tok to) false),(11,zI i),(12,zI k),(13,zI j)]
theorem BQ (en:Int) (R:Br) (o:cA) (nl:Bool) (hR:R.length<=1000) (hr:∀x∈R,x.1.length<=20000) (hc:∀x∈R,∀y∈x.1,y.1.length<=1000) (σ:AS):
 ad prog 38 [NU en R o nl] σ (pQ (pl R) en σ) No:=by
 have bf:=λt σ=>zH t σ;have a2:∀i,i<R.length-> ∃x,R[i]? =some x∧x∈R∧(pl R).drop i=jv x::(pl R).drop (i+1):=λi hi=>by obtain⟨x,K,hd,A,_⟩:=dK R hi;exact⟨x,K,A,by rw[pl,<-List.map_drop,hd,List.map_cons,List.map_drop]⟩
 simp only[NU];refine ad.ob func38 ?_;refine gO bo tI tI ?_;intro S ax;by_cases h6:R.length=6
 .have hlen:(pl R).length=6:=by simp[pl,h6]
  have hS:dC (pl R)=gG 0 (pl R):=by simp[dC,hlen]
  obtain⟨B,c9,q,c8,ci⟩:=zQ σ (.cells 63 [zI en,.ah 94 (R.map lV) o nl]) ax;simp only[c9];clear c9;have hle:AS.le σ B:=ci B λ_ _ _ h=>h;refine gO bo (j2 @h6 @q) tI ?_;refine aA.cz (Uw R S B) (k0:=6) ⟨0,by omega,by omega,by simp,rfl,rfl⟩ (aP.mk (by simp)) (lR _) ?_;rintro m f σ' ⟨i,hm,hi,hX,hs,rfl⟩;subst σ';by_cases a1:i<6
  .have n:i<R.length:=by omega
   obtain⟨x,K,A,hd⟩:=a2 i n;obtain⟨_,E⟩:=List.getElem?_eq_some_iff.1 K;have V:((i:Int)<6)=True:=by simp;omega
   have b3:=hr x A;rw[hd]at hX;simp only[gG]at hX;refine gO bo (j2 V @q) tI ?_;generalize c6:gG 0 (pl R)=F0 at hX;refine aA.cz (Rz i x F0 (gG (i+1) ((pl R).drop (i+1))) S B) (k0:=x.1.length) ⟨0,by omega,by omega,by rw[hX,List.drop_zero],rfl,rfl⟩ (aP.mk (by simp)) (lR _) ?_;rintro m2 f σ' ⟨k,eg,hk,ai,hs,rfl⟩;subst σ';by_cases J:k<x.1.length
   .obtain⟨y,Z,cb,O,_⟩:=dK x.1 J;obtain⟨_,U⟩:=List.getElem?_eq_some_iff.1 Z;have hK:((k:Int)<x.1.length)=True:=by simp;omega
    have d9:=hc x A y O;have av:(jv x).drop k=y.1::(jv x).drop (k+1):=by rw[jv,<-List.map_drop,cb,List.map_cons,List.map_drop]
    rw[av]at ai;simp only[List.all_cons]at ai;have G:=λσ=>bf i σ;by_cases hy:y.1.length=(bS i).length
    .have b2:((y.1.length:Int)=(bS i).length)=True:=by simp;omega
     refine gO bo (j2 (j7 V @n @K @E @hK @J @Z) (j6 @U @lV.eq_1 @iV.eq_1 @hy @b2 @q)) @G ?_;refine⟨m2-1,_,_,by omega,aP.mk ?_,lR _,k+1,by omega,by omega,by rw[<-ai];simp[hy],rfl,rfl⟩;simp[dv (show k<4000000000000000000 by omega)]
    .have b2:((y.1.length:Int)=(bS i).length)=False:=by simp;omega
     refine gO bo (j2 (j7 V @n @K @E @hK @J @Z) (j6 @U @lV.eq_1 @iV.eq_1 @hy @b2 @q)) @G ?_;exact pQ.arg (by rw[hS,c6,<-ai];simp[hy]) hle
   .have hK:((k:Int)<x.1.length)=False:=by simp;omega
    refine gO bo (j7 V @n @K @E @hK @lV.eq_1 @q) tI ?_;have F:(jv x).drop k= []:=List.drop_eq_nil_of_le (by simp[jv];omega);rw[F]at ai;refine⟨m-1,_,_,by omega,aP.mk ?_,lR _,i+1,by omega,by omega,by rw[c6,<-ai];rfl,rfl,rfl⟩;simp[dv (show i<4000000000000000000 by omega)]
  .obtain rfl:i=6:=by omega
   have F:(pl R).drop 6= []:=List.drop_eq_nil_of_le (by omega);rw[F]at hX;have c5:gG 0 (pl R)=true:=hX;rw[c5]at hS;clear hX;refine gO bo @q tI ?_;refine aA.fG 6 5 [] true (by simp[ntmps38]) (.inr ⟨by simp,rfl,rfl⟩) ?_;intro to ac;simp-implicitDefEqProofs [q];refine gO bo @q tI ?_;have w:¬to=S:=nq q ac;have u:=ba w;have b1:σ to=none:=by rw[<-c8 to w];exact ac
   refine aA.cz (Rt R S to B) (k0:=6) ⟨0,0,by omega,by omega,by simp,by simp,rfl,rfl⟩ (aP.mk (by simp)) (lR _) ?_;rintro m f σ' ⟨i,th,hm,hi,X,e4,hs,rfl⟩;subst σ';by_cases a1:i<6
   .have n:i<R.length:=by omega
    obtain⟨x,K,A,hd⟩:=a2 i n;obtain⟨_,E⟩:=List.getElem?_eq_some_iff.1 K;have V:((i:Int)<6)=True:=by simp;omega
    have b3:=hr x A;rw[hd]at X;simp only[lF]at X;have bs:(65535<(x.1.length:Int))=False:=by simp;omega
    have a9:2^(i+1)=2*2^i:=by rw[Nat.pow_succ];omega
    have e5:(2:Nat)^i<=2^6:=Nat.pow_le_pow_right (by omega) (by omega);generalize hP:(2:Nat)^i=P at*;have cv:IntKind.i64.wrap (2*(P:Int))=((2*P:Nat):Int):=by rw[aI (by omega) (by omega)];omega
    by_cases hz:x.1= []
    .have Y:jv x= []:=by simp[jv,hz]
     simp only[Y,if_true]at X;refine gO bo (j2 (j7 V @n @K @E @bs @lV.eq_1 @hz) (j3 @w @u @q)) tI ?_;refine⟨m-1,_,_,by omega,aP.mk ?_,lR _,i+1,th,by omega,by omega,by omega,by omega,rfl,rfl⟩;simp[dv (show i<4000000000000000000 by omega),cv,a9]
    .have Y:jv x≠ []:=by simp[jv,hz]
     have ap:(0<x.1.length)=True:=by simp only[eq_iff_iff,iff_true];cases hx:x.1 with|nil=>exact absurd hx hz|cons _ _ =>simp
     simp only[Y,if_false]at X;have eb:IntKind.i64.wrap ((th:Int)+(P:Int))=((th+P:Nat):Int):=by rw[aI (by omega) (by omega)];omega
     refine gO bo (j2 (j7 V @n @K @E @bs @lV.eq_1 @ap) (j3 @w @u @q)) tI ?_;refine⟨m-1,_,_,by omega,aP.mk ?_,lR _,i+1,th+P,by omega,by omega,by omega,by omega,rfl,rfl⟩;simp[dv (show i<4000000000000000000 by omega),eb,cv,a9]
   .obtain rfl:i=6:=by omega
    have F:(pl R).drop 6= []:=List.drop_eq_nil_of_le (by omega);rw[F]at X;simp[lF]at X;have c0:IntKind.u8.wrap (th:Int)=((UInt8.ofNat th).toNat:Int):=by rw[nO];simp
    refine gO bo (j4 @c0 @w @u @q) tI ?_;refine aA.cz (RA R ([0,UInt8.ofNat th]++qX (pl R)) S to B) (k0:=6) ⟨0,[0,UInt8.ofNat th],by omega,by omega,by simp,by simp,rfl,rfl⟩ (aP.mk (by simp)) (lR _) ?_;rintro m f σ' ⟨i,l,hm,hi,Q,hl,hs,rfl⟩;subst σ';by_cases a1:i<6
    .have n:i<R.length:=by omega
     obtain⟨x,K,A,hd⟩:=a2 i n;obtain⟨_,E⟩:=List.getElem?_eq_some_iff.1 K;have V:((i:Int)<6)=True:=by simp;omega
     have b3:=hr x A;rw[hd]at Q;simp only[qX,List.flatMap_cons]at Q;by_cases hz:x.1= []
     .have Y:jv x= []:=by simp[jv,hz]
      simp only[Y,CC,if_true,List.nil_append]at Q;refine gO bo (j2 (j7 V @n @K @E @lV.eq_1 @hz @w) (j2 @u @q)) tI ?_;refine⟨m-1,_,_,by omega,aP.mk ?_,lR _,i+1,l,by omega,by omega,Q,by omega,rfl,rfl⟩;simp[dv (show i<4000000000000000000 by omega)]
     .have Y:jv x≠ []:=by simp[jv,hz]
      have c1:(jv x).length=x.1.length:=by simp[jv]
      have ap:(0<x.1.length)=True:=by simp only[eq_iff_iff,iff_true];cases hx:x.1 with|nil=>exact absurd hx hz|cons _ _ =>simp
      simp only[Y,CC,if_false,c1]at Q;have b4:IntKind.u64.wrap (x.1.length:Int)=x.1.length:=gM (by omega) (by omega);have H:=λσ=>eN (x.1.length:Int) 2 (by omega) (by omega) (by omega) (by omega) σ;have I:=an (x.1.length:Int) 2;have af:(aS (x.1.length:Int) 2).isEmpty=false:=rfl;simp only[show(2:Int).toNat=2 from rfl]at H;generalize aS (x.1.length:Int) 2=pb at*;refine gO bo (j2 (j7 V @n @K @E @lV.eq_1 @ap @b4) (j3 @w @u @q)) @H ?_;intro ch h2 a4;have a5:=ba h2;refine gO bo (j5 @h2 @a5 @af @I @q) tI ?_;refine⟨m-1,_,_,by omega,aP.mk ?_,?_,i+1,l++pb,by omega,by omega,by rw[List.append_assoc];exact Q,by rw[List.length_append,I];omega,rfl,rfl⟩
      .simp[dv (show i<4000000000000000000 by omega)]
      .rw[List.length_append,I];exact aw (by simp[AS.set,h2,a4]) (lR _)
    .obtain rfl:i=6:=by omega
     have F:(pl R).drop 6= []:=List.drop_eq_nil_of_le (by omega);rw[F]at Q;simp only[qX,List.flatMap_nil,List.append_nil]at Q;cases ar:dT en 2 with
     |false=>have c2:=λσ=>n7 en 2 (.inl rfl) σ;rw[ar]at c2;refine gO bo (j3 @w @u @q) @c2 ?_;exact pQ.no hS (by simp[okW,ar]) (AS.le_trans hle (aw ac (lR _)))
     |true=>
      have am:=λσ=>n7 en 2 (.inl rfl) σ;rw[ar]at am;have fv:=vq ar;have b4:IntKind.u64.wrap en=en:=gM (by omega) (by omega);have H:=λσ=>eN en 2 (by omega) (by omega) (by omega) (by omega) σ;have I:=an en 2;have af:(aS en 2).isEmpty=false:=rfl;simp only[show(2:Int).toNat=2 from rfl]at H;have bv:de (pl R) en=(l++aS en 2)++iP 0 (pl R):=by rw[de,Q,X];simp[qX]
      have M:okW (pl R) en=allFit 0 (pl R):=by simp[okW,ar]
      generalize aS en 2=pb at*;refine gO bo (j4 @b4 @w @u @q) (j2 @am @H) ?_;intro ch h2 a4;have a5:=ba h2;refine gO bo (j5 @h2 @a5 @af @I @q) tI ?_;refine aA.cz (UF R (okW (pl R) en) (de (pl R) en) S to B) (k0:=6) ⟨0,l++pb,by omega,by omega,by rw[M];simp,by rw[bv];simp,by rw[List.length_append,I];omega,rfl,rfl⟩ (aP.mk ?_) ?_ ?_
      .simp
      .rw[List.length_append,I];exact aw (by simp[AS.set,h2,a4]) (lR _)
      clear H Q bv I af h2 a5 a4 am M hl;clear ch l;rintro m f σ' ⟨i,l,hm,hi,M,Q,hl,hs,rfl⟩;subst σ';by_cases a1:i<6
      .have n:i<R.length:=by omega
       obtain⟨x,K,A,hd⟩:=a2 i n;obtain⟨_,E⟩:=List.getElem?_eq_some_iff.1 K;have V:((i:Int)<6)=True:=by simp;omega
       have b3:=hr x A;rw[hd]at M Q;simp only[allFit,iP]at M Q;refine gO bo (j2 V @q) tI ?_;refine aA.cz (UH x (okW (pl R) en) (allFit (i+1) ((pl R).drop (i+1))) i (iP (i+1) ((pl R).drop (i+1))) (de (pl R) en) S to B) (k0:=x.1.length) ⟨0,l,by omega,by omega,M,by rw[<-Q];simp,by omega,rfl,rfl⟩ (aP.mk (by simp)) (lR _) ?_;rintro m2 f σ' ⟨k,l2,eg,hk,L,al,fi,hs,rfl⟩;subst σ';by_cases J:k<x.1.length
       .obtain⟨y,Z,cb,O,_⟩:=dK x.1 J;obtain⟨_,U⟩:=List.getElem?_eq_some_iff.1 Z;have hK:((k:Int)<x.1.length)=True:=by simp;omega
        have d9:=hc x A y O;have av:(jv x).drop k=y.1::(jv x).drop (k+1):=by rw[jv,<-List.map_drop,cb,List.map_cons,List.map_drop]
        rw[av]at L al;simp only[jF,pR,List.all_cons,List.flatMap_cons]at L al;have ei:y.1.length=(bS i).length:=by have:=xx (k:=i) (l:=jv x) c5 (by simp[pl,K]) y.1 (List.mem_map.2 ⟨y,O,rfl⟩);simpa using this
        have fk:=o8 (i:Int);have G:=λσ=>bf i σ;have cs:=λj hj σ=>o4 i j 0 a1 hj (by omega) σ;generalize c3:bS (i:Int)=ks at*;refine gO bo (j2 (j7 V @n @K @E @hK @lV.eq_1 @w) (j2 @u @q)) tI ?_;refine aA.cz (UG ks y.1 (okW (pl R) en) (jF i ((jv x).drop (k+1))&&allFit (i+1) ((pl R).drop (i+1))) i k (20+600000*i+24*k) ((pR i ((jv x).drop (k+1)))++iP (i+1) ((pl R).drop (i+1))) (de (pl R) en) S to B) (k0:=ks.length) ⟨0,l2,by omega,by omega,?_,?_,by omega,rfl,rfl⟩ (aP.mk (by simp)) (lR _) ?_
        .rw[L,List.drop_zero,List.drop_zero,Bool.and_assoc,jF,c3]
        .rw[List.drop_zero,List.drop_zero,<-al];simp[pR,c3]
        rintro m3 f σ' ⟨j,l3,fd,hj,D,ak,fe,hs,rfl⟩;subst σ';by_cases bb:j<ks.length
        .obtain⟨kd,ej,em,ee,_⟩:=dK ks bb;obtain⟨v,b6,ek,ec,_⟩:=dK y.1 (show j<y.1.length by omega);obtain⟨_,be⟩:=List.getElem?_eq_some_iff.1 b6;rw[em,ek]at D ak;simp only[nZ,s8]at D ak;have hJ:((j:Int)<ks.length)=True:=by simp;omega
         have cj:j<y.1.length:=by omega
         have b5:=λσ=>cs j bb σ;rw[show ks.getD j 0=kd by simp[ej]]at b5;have a8:=Gl kd 0;generalize fb:wK kd 0=wk at*;have ab:=λσ=>n7 v wk a8 σ;cases ca:dT v wk with
         |false=>rw[ca]at D ab;refine gO bo (j2 (j7 V @n @K @E @hK @J @Z) (j2 (j7 @U @hJ @cj @b6 @be @lV.eq_1 @iV.eq_1) (j4 @aG @w @u @q))) (j3 @G @b5 @ab) ?_;exact pQ.no hS (by rw[D];rfl) (AS.le_trans hle (aw ac (lR _)))
         |true=>
          rw[ca]at D ab;have e7:=vq ca;have ck:IntKind.u64.wrap v=v:=gM (by omega) (by omega);have H:=λσ=>eN v wk (by omega) (by omega) (by omega) (by omega) σ;have I:=an v wk.toNat;have af:(aS v wk.toNat).isEmpty=false:=by rcases a8 with rfl|rfl<;>rfl
          generalize aS v wk.toNat=pb at*;refine gO bo (j2 (j7 V @n @K @E @hK @J @Z) (j2 (j7 @U @hJ @cj @b6 @be @lV.eq_1 @iV.eq_1) (j5 @aG @ck @w @u @q))) (j4 @G @b5 @ab @H) ?_;intro e9 h3 et;have e0:=ba h3;refine gO bo (j5 @h3 @e0 @af @I @q) tI ?_;refine⟨m3-1,_,_,by omega,aP.mk ?_,?_,j+1,l3++pb,by omega,by omega,by rw[D];simp,by rw[<-ak];simp,by rw[List.length_append,I];omega,rfl,rfl⟩
          .simp[dv (show j<4000000000000000000 by omega)]
          .rw[List.length_append,I];exact aw (by simp[AS.set,h3,et]) (lR _)
        .have hJ:((j:Int)<ks.length)=False:=by simp;omega
         have F:ks.drop j= []:=List.drop_eq_nil_of_le (by omega);rw[F]at D ak;simp[nZ,s8]at D ak;refine gO bo (j2 @hJ @q) @G ?_;refine⟨m2-1,_,_,by omega,aP.mk ?_,lR _,k+1,l3,by omega,by omega,D,ak,by omega,rfl,rfl⟩;simp[dv (show k<4000000000000000000 by omega)]
       .have hK:((k:Int)<x.1.length)=False:=by simp;omega
        have F:(jv x).drop k= []:=List.drop_eq_nil_of_le (by simp[jv];omega);rw[F]at L al;simp[jF,pR]at L al;refine gO bo (j2 (j7 V @n @K @E @hK @lV.eq_1 @w) (j2 @u @q)) tI ?_;refine⟨m-1,_,_,by omega,aP.mk ?_,lR _,i+1,l2,by omega,by omega,L,al,by omega,rfl,rfl⟩;simp[dv (show i<4000000000000000000 by omega)]
      .obtain rfl:i=6:=by omega
       have F:(pl R).drop 6= []:=List.drop_eq_nil_of_le (by omega);rw[F]at M Q;simp[allFit,iP]at M Q;refine gO bo @q tI ?_;refine⟨_,_,?_,?_,.inl ⟨hS,.inl ⟨M,to,b1,rfl,rfl⟩⟩⟩
       .rw[<-Q];exact Wk.refl _
       .rw[<-Q];exact yz hle
 .have eo:((R.length:Int)=6)=False:=by simp;omega
  have hS:dC (pl R)=false:=by simp[dC,pl,h6]
  refine gO bo @eo tI ?_;exact pQ.arg hS (aw ax (lR _))
end Rw
namespace Im
open Sg (aE bL bI fW fX iJ cD)
open Pl (sV bR bD)
def OL:List (Nat×TypeId):= [(0,49),(1,47),(2,9),(3,30),(4,5)]
def c7 (en:Int) (bj:Nat):List AV:= [.aC,.aC,.aC,.aC,.aC,zI en,.dg bj 0 6 6]
theorem DI.init {en:Int}{B σ q o:AS}{aF bj:Nat}{n l:List Nat}(V:B aF=none) (X:B bj=none) (D:aF≠bj) (J:∀j,j≠aF->j≠bj->σ j=B j) (F:σ aF≠none) (A:σ bj≠none)
 (l1:n.length=5) (n1:n.Nodup) (f1:∀t∈n,σ t=none) (Y:q aF=some (.cells 88 (zx (c7 en bj) OL n))) (t1:∀t∈n,q t=some (.tok 0)) (I:∀j,j≠aF->j ∉ n->q j=σ j)
 (l2:l.length=6) (n2:l.Nodup) (f2:∀t∈l,q t=none) (K:o bj=some (.cells 94 (zx [.aC,.aC,.aC,.aC,.aC,.aC] Lu l))) (t2:∀t∈l,o t=some (.tok 0)) (H:∀j,j≠bj->j ∉ l->o j=q j):
 ∃k T,k.aF=aF∧DI k en ⟨[],[],[],[],[]⟩ T B o∧ed T= [[],[],[],[],[],[]]:=by
 have a1:aF ∉ n:=λh=>F (f1 _ h);have S:bj ∉ n:=λh=>A (f1 _ h);have Q:aF ∉ l:=λh=>by have:=f2 _ h;rw[Y]at this;cases this
 have a4:bj ∉ l:=λh=>by have:=f2 _ h;rw[I _ D.symm S]at this;exact A this
 have O:∀t∈n,t ∉ l:=λt ht h=>by have:=f2 _ h;rw[t1 t ht]at this;cases this
 have M:∀t∈n,t≠aF∧t≠bj:=λt ht=>⟨λe=>a1 (e ▸ ht),λe=>S (e ▸ ht)⟩;have L:∀t∈l,t≠aF∧t≠bj:=λt ht=>⟨λe=>Q (e ▸ ht),λe=>a4 (e ▸ ht)⟩;have E:∀t∈n,o t=some (.tok 0):=λt ht=>by rw[H _ (M t ht).2 (O t ht)];exact t1 t ht
 have b1:∀t∈n,B t=none:=λt ht=>by rw[<-J _ (M t ht).1 (M t ht).2];exact f1 t ht
 have Z:∀t∈l,B t=none:=λt ht=>by rw[<-J _ (L t ht).1 (L t ht).2,<-I _ (L t ht).1 (λh=>O t h ht)];exact f2 t ht
 have hle:AS.le B o:=by
  intro j b y;have U:j≠aF:=nq V y;have j2:j≠bj:=nq X y;have j3:j ∉ n:=λh=>by rw[b1 _ h]at y;cases y
  have j4:j ∉ l:=λh=>by rw[Z _ h]at y;cases y
  rw[H _ j2 j4,I _ U j3,J _ U j2];exact y
 have u:o aF=some (.cells 88 (zx (c7 en bj) OL n)):=by rw[H _ D Q];exact Y
 have v:(aF::bj::(n++l)).Nodup:=by simp only[List.nodup_cons,List.mem_cons,List.mem_append,not_or];exact⟨⟨D,a1,Q⟩,⟨S,a4⟩,List.nodup_append.2 ⟨n1,n2,λa ha b hb e=>O a ha (e ▸ hb)⟩⟩
 have w:∀j∈aF::bj::(n++l),B j=none:=by
  intro j y;simp only[List.mem_cons,List.mem_append]at y;rcases y with rfl|rfl|h|h
  .exact V
  .exact X
  .exact b1 j h
  .exact Z j h
 match n,l1,u,E,v,w with
 |[a,b,c,d,e],_,u,E,v,w=>
 match l,l2,K,t2,v,w with
 |[x0,x1,x2,x3,x4,x5],_,K,t2,v,w=>
  refine⟨⟨aF,bj,a,b,c,d,e⟩,[(x0,[]),(x1,[]),(x2,[]),(x3,[]),(x4,[]),(x5,[])],rfl,⟨u,K,E a (by simp),E b (by simp),E c (by simp),E d (by simp),E e (by simp),?_,?_,hle,rfl,v,w⟩,rfl⟩
  .intro x G;simp only[List.mem_cons,List.not_mem_nil,or_false]at G;rcases G with rfl|rfl|rfl|rfl|rfl|rfl<;>exact t2 _ (by simp)
  .intro x G p hp;simp only[List.mem_cons,List.not_mem_nil,or_false]at G;rcases G with rfl|rfl|rfl|rfl|rfl|rfl<;>cases hp
def pw (i:Nat) (v:List Int) (X:List DW):List DW:=X.modify i λp=>(p.1,v,p.2.2)
def gS (T:DR) (t i:Nat) (v:List Int):DR:=T.modify t λx=>(x.1,pw i v x.2)
theorem GM (X:List DW) (i:Nat) (v:List Int):(pw i v X).map (·.2.1)=(X.map (·.2.1)).set i v:=by
 apply List.ext_getElem
 .simp[pw]
 .intro j a b;simp only[pw,List.getElem_map,List.getElem_modify,List.getElem_set];split<;>rfl
theorem Jz (X:List DW) (i:Nat) (v:List Int):(pw i v X).map (·.1)=X.map (·.1):=by
 apply List.ext_getElem
 .simp[pw]
 .intro j a b;simp only[pw,List.getElem_map,List.getElem_modify];split<;>rfl
theorem JA {X:List DW}{i:Nat}{p:DW}(n:X[i]? =some p) {v:List Int}(l:v.length=p.2.1.length):(pw i v X).map ud=X.map ud:=by
 obtain⟨h1,o⟩:=List.getElem?_eq_some_iff.1 n;apply List.ext_getElem
 .simp[pw]
 .intro j a b;simp only[pw,List.getElem_map,List.getElem_modify];split
  .rename_i e;subst e;rw[o];simp[ud,l]
  .rfl
theorem GN {X:List DW}{i:Nat}{p q:DW}{v:List Int}(o:X[i]? =some p) (n:q∈pw i v X):(∃j,j≠i∧X[j]? =some q)∨q=(p.1,v,p.2.2):=by
 obtain⟨h1,u⟩:=List.getElem?_eq_some_iff.1 o;obtain⟨j,l,rfl⟩:=List.getElem_of_mem n;simp only[pw,List.length_modify]at l;simp only[pw,List.getElem_modify];split
 .rename_i e;subst e;rw[u];exact .inr rfl
 .rename_i e;exact .inl ⟨j,λw=>e w.symm,by simp[l]⟩
theorem GP (T:DR) (t i:Nat) (v:List Int):(gS T t i v).map (·.1)=T.map (·.1):=by
 apply List.ext_getElem
 .simp[gS]
 .intro j a b;simp only[gS,List.getElem_map,List.getElem_modify];split<;>rfl
theorem GO (T:DR) (t i:Nat) (v:List Int):((gS T t i v).flatMap λx=>x.2.map (·.1))=T.flatMap λx=>x.2.map (·.1):=by
 unfold gS;induction T generalizing t with
 |nil=>cases t<;>rfl
 |cons x r j=>cases t with
  |zero=>simp only[List.modify_zero_cons,List.flatMap_cons];rw[Jz]
  |succ t=>simpa using j t
theorem Gy (T:DR) (t i:Nat) (v:List Int):ed (gS T t i v)=(ed T).modify t (·.set i v):=by
 unfold ed gS;induction T generalizing t with
 |nil=>cases t<;>rfl
 |cons x r j=>cases t with
  |zero=>simp only[List.modify_zero_cons,List.map_cons];rw[GM]
  |succ t=>simpa using j t
theorem JB {T:DR}{t i:Nat}{x:Nat×List DW}{p:DW}(l:T[t]? =some x) (o:x.2[i]? =some p) {v:List Int}(n:v.length=p.2.1.length):(gS T t i v).map pB=T.map pB:=by
 obtain⟨h1,q⟩:=List.getElem?_eq_some_iff.1 l;apply List.ext_getElem
 .simp[gS]
 .intro j a b;simp only[gS,List.getElem_map,List.getElem_modify];split
  .rename_i e;subst e;rw[q];simp only[pB,JA o n];congr 1;simp[pw]
  .rfl
theorem zy {T:DR}{t i:Nat}{v:List Int}{x y:Nat×List DW}(o:T[t]? =some x) (n:y∈gS T t i v):(∃j,j≠t∧T[j]? =some y)∨y=(x.1,pw i v x.2):=by
 obtain⟨h1,q⟩:=List.getElem?_eq_some_iff.1 o;obtain⟨j,l,rfl⟩:=List.getElem_of_mem n;simp only[gS,List.length_modify]at l;simp only[gS,List.getElem_modify];split
 .rename_i e;subst e;rw[q];exact .inr rfl
 .rename_i e;exact .inl ⟨j,λu=>e u.symm,by simp[l]⟩
section
variable {k:SK} {en:Int} {d:SD} {T:DR} {B τ:AS}
theorem DI.apart (h:DI k en d T B τ) {t i:Nat}{x:Nat×List DW}{p:DW}(u:T[t]? =some x) (D:x.2[i]? =some p) {n i':Nat}{y:Nat×List DW}{q:DW}(o:T[n]? =some y) (A:y.2[i']? =some q) (v:t≠n∨i≠i'):q.1≠p.1:=by
 have l:=(List.nodup_append.1 h.dE).2.1;unfold List.Nodup at l;rw[List.pairwise_flatMap]at l;obtain⟨K,J⟩:=List.getElem?_eq_some_iff.1 u;obtain⟨I,H⟩:=List.getElem?_eq_some_iff.1 o;obtain⟨G,F⟩:=List.getElem?_eq_some_iff.1 D;obtain⟨d1,d2⟩:=List.getElem?_eq_some_iff.1 A;have pm:p.1∈x.2.map (·.1):=List.mem_map.2 ⟨p,List.mem_of_getElem? D,rfl⟩;have w:q.1∈y.2.map (·.1):=List.mem_map.2 ⟨q,List.mem_of_getElem? A,rfl⟩;by_cases ht:t=n
 .subst ht;have L:i≠i':=by rcases v with e|e;exact absurd rfl e;exact e
  have:y=x:=by rw[u]at o;cases o;rfl
  subst this;have h1:=List.pairwise_iff_getElem.1 (l.1 y (List.mem_of_getElem? u));rcases Nat.lt_or_gt_of_ne L with j|j
  .have:=h1 i i' (by simpa using G) (by simpa using d1) j;simp only[List.getElem_map,F,d2]at this;exact λe=>this e.symm
  .have:=h1 i' i (by simpa using d1) (by simpa using G) j;simpa only[List.getElem_map,F,d2]using this
 .have E:=List.pairwise_iff_getElem.1 l.2;rcases Nat.lt_or_gt_of_ne ht with j|j
  .have:=E t n K I j;rw[J,H]at this;exact λe=>this _ pm _ w e.symm
  .have:=E n t I K j;rw[J,H]at this;exact this _ w _ pm
theorem DI.setRow (h:DI k en d T B τ) {t i:Nat}{x:Nat×List DW}{p:DW}(u:T[t]? =some x) (H:x.2[i]? =some p) {v:List Int}(Y:v.length=p.2.1.length):
 DI k en d (gS T t i v) B (τ.set p.1 (mJ (p.1,v,p.2.2))):=by
 have l:x∈T:=List.mem_of_getElem? u;have F:p∈x.2:=List.mem_of_getElem? H;obtain⟨X,V,U,S,Q,O,M⟩:=h.qn l F;have L:cm k (gS T t i v)=cm k T:=by unfold cm;rw[GP,GO]
 have I:=List.nodup_append.1 h.dE;have G:p.1∈T.flatMap λx=>x.2.map (·.1):=List.mem_flatMap.2 ⟨x,l,List.mem_map.2 ⟨p,F,rfl⟩⟩;have D:∀y∈T,y.1≠p.1:=λy A=>I.2.2 y.1 (List.mem_map.2 ⟨y,A,rfl⟩) p.1 G;refine⟨?_,?_,?_,?_,?_,?_,?_,λy A=> ?_,λy A q J=> ?_,λj b o=> ?_,by simpa[gS]using h.qj,by rw[L];exact h.nd,by rw[L];exact h.fr⟩
 .rw[AS.ag _ _ X.symm];exact h.aF
 .rw[AS.ag _ _ V.symm,JB u H Y];exact h.bj
 .rw[AS.ag _ _ U.symm];exact h.tS
 .rw[AS.ag _ _ S.symm];exact h.tL
 .rw[AS.ag _ _ Q.symm];exact h.tN
 .rw[AS.ag _ _ O.symm];exact h.tB
 .rw[AS.ag _ _ M.symm];exact h.tC
 .rcases zy u A with⟨j,o,n⟩|rfl
  .have w:=List.mem_of_getElem? n;rw[AS.ag _ _ (D y w)];exact h.vX y w
  .rw[AS.ag _ _ (D x l)];simpa[pw]using h.vX x l
 .rcases zy u A with⟨j,o,n⟩|rfl
  .obtain⟨i',K,e⟩:=List.getElem_of_mem J;rw[AS.ag _ _ (h.apart u H n (i':=i') (by rw[List.getElem?_eq_getElem K,e]) (.inl o.symm))];exact h.row y (List.mem_of_getElem? n) q J
  .rcases GN H J with⟨j,o,E⟩|rfl
   .rw[AS.ag _ _ (h.apart u H u E (.inr o.symm))];exact h.row x l q (List.mem_of_getElem? E)
   .rw[AS.aD]
 .have hf:=h.fr p.1 (by simp only[cm,List.mem_cons];exact .inr (.inr (.inr (.inr (.inr (.inr (.inr (List.mem_append_right _ G))))))));rw[AS.ag _ _ (by rintro rfl;rw[hf]at o;cases o)];exact h.le j b o
theorem DI.rowAt (h:DI k en d T B τ) {t i:Nat}{X:List (List Int)}{r:List Int}(l:(ed T)[t]? =some X) (j:X[i]? =some r):
 ∃x p,T[t]? =some x∧x.2[i]? =some p∧p.2.1=r∧τ p.1=some (mJ p)∧(T.map pB)[t]? =some (pB x)∧(x.2.map ud)[i]? =some (ud p)∧x.2.length=X.length:=by
 rw[ed,List.getElem?_map]at l;cases o:T[t]? with
 |none=>rw[o]at l;cases l
 |some x=>
  rw[o]at l;simp only[Option.map_some,Option.some.injEq]at l;subst l;rw[List.getElem?_map]at j;cases n:x.2[i]? with
  |none=>rw[n]at j;cases j
  |some p=>rw[n]at j;simp only[Option.map_some,Option.some.injEq]at j;exact⟨x,p,rfl,n,j,h.row x (List.mem_of_getElem? o) p (List.mem_of_getElem? n),by rw[List.getElem?_map,o];rfl,by rw[List.getElem?_map,n];rfl,by simp⟩
end
theorem G9 {P:Program}{G:Gh}{id cap:Nat}{e:TypeId}{L n:List AV}(u:Tj P G (id,e,L++n)) (D:L.length<=cap):∀y,aU P G (.dg id 0 L.length cap) y->aU P G (.ah e L .aJ false) y:=by
 intro y v;cases v with
 |dg E=>
  have h1:aU P G (.ah e (L++n) .full false) _ :=u _ (.dg E);have hle:L.length<=(L++n).length:=by simp
  have q:∀i,i<L.length->(L++n).getD i .any=L.getD i .any:=λi l=>by simp only[List.getD_eq_getElem?_getD,List.getElem?_append_left l]
  simp only at h1;generalize L++n=M at h1 hle q;cases h1 with
  |ah vs hl hm w A F=>
   refine .ah vs (λi l=> ?_) (λj o=>hm j (Nat.lt_of_lt_of_le o (Nat.mul_le_mul_right _ hle))) (λi j l o=> ?_) D trivial
   .have:=hl i (by omega);rwa [q i l]at this
   .have:=w i j (by omega) o;rwa [q i l]at this
open Tryz
open Sg (aE bL bI fW fX iJ cD)
open Pl (sV bR bD)
section
variable {P:Program}
def S9 (P:Program) (σ σ':AS):Prop:= ∀j,σ' j=σ j∨ ∃ty cs cs',σ j=some (.cells ty cs)∧σ' j=some (.cells ty cs')∧cs.length=cs'.length∧ ∀k,k<cs'.length->AV.Wk P (cs.getD k .any) (cs'.getD k .any)
theorem Inv.Gi {G:Gh}{σ σ':AS}{w:World}(l:Inv P G σ w) (h:S9 P σ σ'):Inv P G σ' w:=by
 refine { below:=l.below,base:=l.base,mem:=l.mem,top:=l.top,dj:=λi b e=>⟨(l.dj i b e).1,(l.dj i b e).2.1,λo u hn=> ?_⟩,eZ:=l.eZ,own:=l.own,cells:= ?_,maps:= ?_,dQ:= ?_,tok:= ?_ }
 .rcases h i with n|⟨ty,cs,cs',h1,_⟩
  .exact(l.dj i b e).2.2 o u (by rw[<-n];exact hn)
  .exact(l.dj i b e).2.2 ty cs h1
 .intro j o u e;rcases h j with n|⟨ty,cs,cs',h1,q,D,A⟩
  .exact l.cells j o u (by rw[<-n];exact e)
  .rw[q]at e;cases e;obtain⟨b,vs,g1,g2,g3,y⟩:=l.cells j _ cs h1;exact⟨b,vs,g1,g2,by omega,λk v=>⟨A k v _ _ (y k (by omega)).1,(y k (by omega)).2⟩⟩
 .intro j es e;rcases h j with n|⟨ty,cs,cs',h1,q,_⟩
  .exact l.maps j es (by rw[<-n];exact e)
  .rw[q]at e;cases e
 .intro j s p e;rcases h j with n|⟨ty,cs,cs',h1,q,_⟩
  .exact l.dQ j s p (by rw[<-n];exact e)
  .rw[q]at e;cases e;cases p
 .intro j m e;rcases h j with n|⟨ty,cs,cs',h1,q,_⟩
  .exact l.tok j m (by rw[<-n];exact e)
  .rw[q]at e;cases e
theorem ad.Gi {f:FuncId}{j:List AV}{R l:AV->AS->Prop}{σ σ':AS}(h:ad P f j σ' R l) (hw:S9 P σ σ'):ad P f j σ R l:=
 ⟨h.body,λG w vals o n=>h.run G w vals (Inv.Gi o hw) n⟩
theorem ym:∀ {L:List Fz}{σ:AS},(L.map (·.1)).Nodup-> ∀p∈L,mU L σ p.1=some (.cells p.2.1 (aR p.2.2))
 |[],_,_,p,j=>by cases j
 |q::r,σ,h,p,j=>by
  simp only[List.map_cons,List.nodup_cons]at h;rw[mU];rcases List.mem_cons.1 j with rfl|j
  .rw[AS.aD]
  .rw[AS.ag _ _ (λe=>h.1 (List.mem_map.2 ⟨p,j,e⟩))];exact ym h.2 p j
end
def y0 (p:DW):List AV:=p.2.1.map bg++p.2.2.map λ_ =>AV.any
def Gb (T:DR):List Fz:=T.flatMap λx=>x.2.map λp=>(p.1,3,y0 p)
def Cy (T:DR):Rw.Br:=T.map λx=>(x.2.map (λp=>(p.2.1,false)),decide (x.2= []))
theorem KP (T:DR):Rw.pl (Cy T)=ed T:=by simp[Rw.pl,Cy,Rw.jv,ed,Function.comp_def]
section
variable {k:SK} {en:Int} {d:SD} {T:DR} {B τ:AS}
theorem DI.write (h:DI k en d T B τ) (hb:∀y∈ed T,y.length<=20000) (hc:∀y∈ed T,∀r∈y,r.length<=1000):
 ad prog 38 [.agg [zI en,.dg k.bj 0 6 6]] τ (Rw.pQ (ed T) en (B.set k.aF (.cells 88 (wF k en d)))) No:=by
 have hw:=Rw.BQ en (Cy T) .aJ false (by simp[Cy,h.qj]) (λx o=>by
  obtain⟨y,w,rfl⟩:=List.mem_map.1 o;have:=hb _ (List.mem_map.2 ⟨y,w,rfl⟩);simpa using this) (λx o r X=>by
  obtain⟨y,w,rfl⟩:=List.mem_map.1 o;obtain⟨p,n,rfl⟩:=List.mem_map.1 X;exact hc _ (List.mem_map.2 ⟨y,w,rfl⟩) p.2.1 (List.mem_map.2 ⟨p,n,rfl⟩)) (B.set k.aF (.cells 88 (wF k en d)))
 rw[KP]at hw;have I:∀v∈T.map pB,v.cells= [v]:=λv E=>by obtain⟨x,_,rfl⟩:=List.mem_map.1 E;rfl
 have hint:∀(p:DW),∀v∈y0 p,v.cells= [v]:=λp v E=>by rcases List.mem_append.1 E with E|E<;>obtain⟨x,_,rfl⟩:=List.mem_map.1 E<;>rfl
 have u:∀p∈Gb T,∃x∈T,∃q∈x.2,p=(q.1,3,y0 q):=λp n=>by obtain⟨x,o,n⟩:=List.mem_flatMap.1 n;obtain⟨q,A,rfl⟩:=List.mem_map.1 n;exact⟨x,o,q,A,rfl⟩
 have K:(Gb T).map (·.1)=T.flatMap λx=>x.2.map (·.1):=by simp[Gb,List.map_flatMap,Function.comp_def]
 have Q:=List.nodup_append.1 h.dE;have af:=h.ne;have ai:=h.I9;have J:((Gb T).map (·.1)).Nodup:=by rw[K];exact Q.2.1
 have Z:S9 prog τ (mU (Gb T) τ):=by
  intro j;by_cases D:∃p∈Gb T,p.1=j
  .obtain⟨p,n,rfl⟩:=D;have h1:=ym (σ:=τ) J p n;obtain⟨x,o,q,A,rfl⟩:=u p n;have Y:=h.row x o q A;simp only at h1;rw[oD (hint q)]at h1;refine .inr ⟨_,_,_,Y,h1,by simp[y0],λk hk=> ?_⟩;by_cases S:k<q.2.1.length
   .have e1:(q.2.1.map bg++q.2.2).getD k .any=(q.2.1.map bg).getD k .any:=by simp only[List.getD_eq_getElem?_getD];rw[List.getElem?_append_left (by simpa using S)]
    have e2:(y0 q).getD k .any=(q.2.1.map bg).getD k .any:=by simp only[y0,List.getD_eq_getElem?_getD];rw[List.getElem?_append_left (by simpa using S)]
    rw[e1,e2];exact Wk.refl _
   .have e2:(y0 q).getD k .any= .any:=by simp only[y0,List.getD_eq_getElem?_getD];rw[List.getElem?_append_right (by simp;omega),List.getElem?_map];cases q.2.2[k-(q.2.1.map bg).length]? <;>rfl
    rw[e2];exact(NR _).2 trivial
  .exact .inl (oa λp n e=>D ⟨p,n,e⟩)
 refine ad.Gi ?_ Z;have H:∀j,j∈ [k.aF,k.bj,k.tS,k.tL,k.tN,k.tB,k.tC]->mU (Gb T) τ j=τ j:=λj D=>oa λp n e=>by
  obtain⟨x,o,q,A,rfl⟩:=u p n;obtain⟨x0,x1,x2,x3,x4,x5,x6⟩:=h.qn o A;simp only at e;subst e;simp only[List.mem_cons,List.not_mem_nil,or_false]at D;rcases D with e|e|e|e|e|e|e
  .exact x0 e
  .exact x1 e
  .exact x2 e
  .exact x3 e
  .exact x4 e
  .exact x5 e
  .exact x6 e
 have L:mU (Gb T) τ k.aF=some (.cells 88 (wF k en d)):=by rw[H _ (by simp)];exact h.aF
 have M:mU (Gb T) τ k.bj=some (.cells 94 (T.map pB)):=by rw[H _ (by simp)];exact h.bj
 have V:AS.le B (mU (Gb T) τ):=λj b D=>by
  rw[oa λp n e=> ?_]
  .exact h.le j b D
  .obtain⟨x,o,q,A,rfl⟩:=u p n;have:=h.fr q.1 (by simp only[cm,List.mem_cons];exact .inr (.inr (.inr (.inr (.inr (.inr (.inr (List.mem_append_right _ (List.mem_flatMap.2 ⟨x,o,List.mem_map.2 ⟨q,A,rfl⟩⟩)))))))));simp only at e;rw[e,D]at this;cases this
 refine ad.le (σ:=mU ((k.bj,94,T.map pB)::Gb T) (B.set k.aF (.cells 88 (wF k en d)))) (ad.PB ((k.bj,94,T.map pB)::Gb T) hw ?_ ?_ ?_ ?_) (B3 ?_ ?_)
 .intro p n;rcases List.mem_cons.1 n with rfl|n
  .rw[AS.ag _ _ (Ne.symm af.1)];exact ai.2.1
  .obtain⟨x,o,q,A,rfl⟩:=u p n;rw[AS.ag _ _ (h.qn o A).1];exact h.fr q.1 (by simp only[cm,List.mem_cons];exact .inr (.inr (.inr (.inr (.inr (.inr (.inr (List.mem_append_right _ (List.mem_flatMap.2 ⟨x,o,List.mem_map.2 ⟨q,A,rfl⟩⟩)))))))))
 .rw[List.map_cons,K,List.nodup_cons];refine⟨λhm=> ?_,Q.2.1⟩;obtain⟨x,o,hm⟩:=List.mem_flatMap.1 hm;obtain⟨q,A,e⟩:=List.mem_map.1 hm;exact(h.qn o A).2.1 e
 .intro p n v E;rcases List.mem_cons.1 n with rfl|n
  .rw[I v E];simp
  .obtain⟨x,o,q,A,rfl⟩:=u p n;rw[hint _ v E];simp
 .intro G xs hz X;have O:=hz _ (List.mem_cons_self);have ac:∀x∈T,∀q∈x.2,∀y,aU prog G (ud q) y->aU prog G (Rw.iV (q.2.1,false)) y:=λx o q A y w=>by have:=G9 (cap:=q.2.1.length+q.2.2.length) (hz (q.1,3,y0 q) (List.mem_cons_of_mem _ (List.mem_flatMap.2 ⟨x,o,List.mem_map.2 ⟨q,A,rfl⟩⟩))) (by simp) y (by simpa[ud]using w);exact this
  have ab:∀x∈T,∀y,aU prog G (pB x) y->aU prog G (Rw.lV (x.2.map (λp=>(p.2.1,false)),decide (x.2= []))) y:=λx o y w=>by
   refine qH (by simp) (by simp) (λi F=>⟨?_,?_⟩) (λi F y w=> ?_) w
   .simp[ud,AV.cells]
   .simp[Rw.iV,AV.cells]
   .simp only[List.getElem_map]at w|-;exact ac x o _ (List.getElem_mem _) y w
  have U:∀y,aU prog G (.dg k.bj 0 6 6) y->aU prog G (.ah 94 ((Cy T).map Rw.lV) .aJ false) y:=λy w=>by
   have h1:=O y (by simpa[h.qj]using w);refine qH (by simp) (by simp[Cy]) (λi F=>⟨?_,?_⟩) (λi F y w=> ?_) h1
   .simp[pB,AV.cells]
   .simp[Rw.lV,AV.cells]
   .simp only[List.getElem_map,Cy]at w|-;exact ab _ (List.getElem_mem _) y w
  refine⟨X.1,λi F=> ?_⟩;have h1:=X.2 i F
  match i,F with
  |0,_ =>
   simp only[List.getD_cons_zero]at h1|-;generalize xs.getD 0 undef=x at h1|-;cases h1 with
   |agg vs l hh=>
    refine .agg vs l λi F=> ?_;have Y:=hh i F
    match i,F with
    |0,_ =>exact Y
    |1,_ =>exact U _ Y
 .exact λj b D=>by
   by_cases e:j=k.aF
   .subst e;rw[AS.aD]at D;rw[L];exact D
   .rw[AS.ag _ _ e]at D;exact V j b D
 .intro p n;rcases List.mem_cons.1 n with rfl|n
  .rw[M,oD I]
  .exact ym J p n
end
def fT (g:bZ) (t:Nat) (r:List Int):List Int:=
 if t=0 then rp 1 (mB g) r else if t=1 then rp 2 (kp g) (rp 1 (mB g) r)else if t=2 then rp 4 (kp g) (rp 3 (mB g) r)else if t=3 then r else rp 0 (kp g) r
def wQ (g:bZ) (t i:Nat):List (List (List Int)):=(dE g bp bp).mapIdx λj X=>if j<t then X.map (fT g j)else if j=t then(X.take i).map (fT g j)++X.drop i else X
theorem Mz {g:bZ}{t i:Nat}{X:List (List Int)}(h:(dE g bp bp)[t]? =some X):(wQ g t i)[t]? =some ((X.take i).map (fT g t)++X.drop i):=by simp[wQ,h]
theorem GF (g:bZ):wQ g 0 0=dE g bp bp:=by
 apply List.ext_getElem
 .simp[wQ]
 .intro j a b;simp[wQ]
theorem GH {g:bZ}{t:Nat}{X:List (List Int)}(h:(dE g bp bp)[t]? =some X):wQ g t X.length=wQ g (t+1) 0:=by
 obtain⟨h1,q⟩:=List.getElem?_eq_some_iff.1 h;apply List.ext_getElem
 .simp[wQ]
 .intro j a b;simp only[wQ,List.getElem_mapIdx];by_cases l:j<t
  .rw[if_pos l,if_pos (by omega)]
  .by_cases o:j=t
   .subst o;rw[if_neg l,if_pos rfl,if_pos (by omega),q];simp
   .rw[if_neg l,if_neg o,if_neg (by omega)];by_cases n:j=t+1
    .rw[if_pos n];simp
    .rw[if_neg n]
theorem Jq {g:bZ}{t i:Nat}{X:List (List Int)}(h:i<X.length):((X.take i).map (fT g t)++X.drop i)[i]? =some X[i]:=by rw[List.getElem?_append_right (by simp;omega)];simp[Nat.min_eq_left (Nat.le_of_lt h),h]
theorem GG {g:bZ}{t i:Nat}{X:List (List Int)}(n:(dE g bp bp)[t]? =some X) (h:i<X.length):(wQ g t i).modify t (·.set i (fT g t X[i]))=wQ g t (i+1):=by
 obtain⟨h1,o⟩:=List.getElem?_eq_some_iff.1 n;apply List.ext_getElem
 .simp[wQ]
 .intro j a b;simp only[List.getElem_modify];by_cases c:t=j
  .subst c;rw[if_pos rfl];simp only[wQ,List.getElem_mapIdx,Nat.lt_irrefl,if_false,if_true,o];apply List.ext_getElem
   .simp;omega
   .intro q a b;simp only[List.getElem_set,List.getElem_append,List.length_map,List.length_take,List.getElem_map,List.getElem_take,List.getElem_drop];by_cases l:i=q
    .subst l;rw[if_pos rfl,dif_pos (by omega)]
    .rw[if_neg l];by_cases v:q<i
     .rw[dif_pos (by omega),dif_pos (by omega)]
     .rw[dif_neg (by omega),dif_neg (by omega)];congr 1;omega
  .rw[if_neg c];simp only[wQ,List.getElem_mapIdx];have u:=ba c;simp only[u,if_false]
theorem Jp (g:bZ):wQ g 6 0=dE g (nM g) (pC g):=by have e:wQ g 6 0= [(bt g bp).map (fT g 0),(bu g bp bp).map (fT g 1),(bM g bp bp).map (fT g 2),(bK g).flatten.map (fT g 3),(cw g bp).map (fT g 4),(cY g bp).map (fT g 5)]:=rfl;have f0:fT g 0=rp 1 (mB g):=rfl;have f1:fT g 1=rp 2 (kp g)∘rp 1 (mB g):=rfl;have f2:fT g 2=rp 4 (kp g)∘rp 3 (mB g):=rfl;have f3:fT g 3=id:=rfl;have f4:fT g 4=rp 0 (kp g):=rfl;have f5:fT g 5=rp 0 (kp g):=rfl;rw[e,f0,f1,f2,f3,f4,f5,<-List.map_map,<-List.map_map,LM,Hq,Ho,Hn,Hm,List.map_id,LN,LO];rfl
end Im
namespace Rg
structure Wf (c:Cl):Prop where
 k1:1<=c.k
 k4:c.k<=4
 t0:0<=c.tf
 t1:c.tf<c.tt
 h0:0<=c.hf
 h1:c.hf<c.ht
 f1:c.k=2->0<=c.fl∧c.fl<c.hf
 f2:¬c.k=2->c.fl= -1
 d1:fN ⟨c.tf,c.tt⟩ ⟨c.hf,c.ht⟩=false
 d2:c.k=2->fN ⟨c.tf,c.tt⟩ ⟨c.fl,c.hf⟩=false
theorem mY (s t:Sn):fN s t=fN t s:=by unfold fN;rw[Bool.and_comm]
theorem j0 {k:Int}{c:Cl}(h:c.k=2):bc k c= [⟨k,1,⟨c.tf,c.tt⟩⟩,⟨k,2,⟨c.hf,c.ht⟩⟩,⟨k,3,⟨c.fl,c.hf⟩⟩]:=by simp[bc,h]
theorem jZ {k:Int}{c:Cl}(h:¬c.k=2):bc k c= [⟨k,1,⟨c.tf,c.tt⟩⟩,⟨k,2,⟨c.hf,c.ht⟩⟩]:=by simp[bc,h]
theorem bN {s t:Sn}(h1:s.f<s.t) (j:t.f<t.t):iC s t=fN s t:=by simp[iC,fN,h1,j]
theorem Ag {t:Sn} :iC ⟨0,0⟩ t=false:=by simp[iC]
theorem qG {s:Sn} :iC s ⟨0,0⟩=false:=by simp[iC]
theorem nN {s t:Sn}(h1:s.f<s.t):jc s t=kX s t:=by obtain⟨a,b⟩:=s;obtain⟨c,d⟩:=t;simp only[jc,kX,Sn.mk.injEq]at h1|-;rw[Bool.eq_iff_iff];simp;omega
theorem Jb {t:Sn} :jc ⟨0,0⟩ t=true:=by simp[jc]
theorem IS (n:Int) (c:Cl):iU n c=dp n c:=by
 unfold iU dp;split
 .rfl
 split
 .rfl
 rename_i h1 u;simp[gq]at h1 u;have e:fP (bc 0 c) (bc 0 c) pL=(iC (cQ c 1) (cQ c 2)||(iC (cQ c 1) (cQ c 3)||iC (cQ c 2) (cQ c 3))):=by
  by_cases j:c.k=2
  .rw[j0 j];have q:cQ c 1=⟨c.tf,c.tt⟩:=rfl;have o:cQ c 2=⟨c.hf,c.ht⟩:=rfl;have l:cQ c 3=⟨c.fl,c.hf⟩:=by simp[cQ,j]
   rw[q,o,l,bN (by simp;omega) (by simp;omega),bN (by simp;omega) (by simp;omega),bN (by simp;omega) (by simp;omega)];simp[fP,pL,mY ⟨c.hf,c.ht⟩ ⟨c.tf,c.tt⟩,mY ⟨c.fl,c.hf⟩ ⟨c.tf,c.tt⟩,mY ⟨c.fl,c.hf⟩ ⟨c.hf,c.ht⟩];generalize fN ⟨c.tf,c.tt⟩ ⟨c.hf,c.ht⟩=x;generalize fN ⟨c.tf,c.tt⟩ ⟨c.fl,c.hf⟩=y;generalize fN ⟨c.hf,c.ht⟩ ⟨c.fl,c.hf⟩=z;revert x y z;decide
  .rw[jZ j];have q:cQ c 1=⟨c.tf,c.tt⟩:=rfl;have o:cQ c 2=⟨c.hf,c.ht⟩:=rfl;have l:cQ c 3=⟨0,0⟩:=by simp[cQ,j]
   rw[q,o,l,bN (by simp;omega) (by simp;omega),qG,qG];simp[fP,pL,mY ⟨c.hf,c.ht⟩ ⟨c.tf,c.tt⟩]
 rw[e]
theorem Lp {n:Int}{c:Cl}(h:dp n c=0):Wf c∧c.tt<=n∧c.ht<=n:=by
 unfold dp at h;split at h
 .cases h
 split at h
 .cases h
 split at h
 .cases h
 rename_i h1 o j;simp[gq]at h1 o;by_cases l:c.k=2
 .rw[j0 l]at j;simp[fP,pL]at j;exact⟨⟨by omega,by omega,by omega,by omega,by omega,by omega,λ_ =>by omega,λh=>absurd l h,j.1.1,λ_ =>j.1.2⟩,by omega,by omega⟩
 .rw[jZ l]at j;simp[fP,pL]at j;exact⟨⟨by omega,by omega,by omega,by omega,by omega,by omega,λh=>absurd h l,λ_ =>by omega,j.1,λh=>absurd h l⟩,by omega,by omega⟩
theorem KE {a b:Cl}(ha:Wf a) (G:Wf b):jx a b=je a b:=by
 have D:cQ a 1=⟨a.tf,a.tt⟩:=rfl;have A:cQ a 2=⟨a.hf,a.ht⟩:=rfl;have E:cQ b 1=⟨b.tf,b.tt⟩:=rfl;have w:cQ b 2=⟨b.hf,b.ht⟩:=rfl;have L:=ha.t1;have M:=ha.h1;have H:=G.t1;have I:=G.h1;have K:=ha.f1;have J:=G.f1;have v:∀t:Sn,∀k p:Int,jW (bc 0 a) ⟨k,p,t⟩=(jc (cQ a 1) t&&(jc (cQ a 2) t&&jc (cQ a 3) t)):=by
  intro t k p;by_cases l:a.k=2
  .have q:cQ a 3=⟨a.fl,a.hf⟩:=by simp[cQ,l]
   have:=K l;rw[j0 l,D,A,q,nN (by simp;omega),nN (by simp;omega),nN (by simp;omega)];simp[jW]
  .have q:cQ a 3=⟨0,0⟩:=by simp[cQ,l]
   rw[jZ l,D,A,q,nN (by simp;omega),nN (by simp;omega),Jb];simp[jW]
 have o:∀t:Sn,∀p:Int,((bc 0 a).any (λy=> !decide (y.p=1)&&decide (y.s.f=t.f)))=(decide (a.hf=t.f)||(decide (a.k=2)&&decide (a.fl=t.f))):=by
  intro t p;by_cases l:a.k=2
  .rw[j0 l];simp[l]
  .rw[jZ l];simp[l]
 have u:(if (decide (a.tf=b.tf)&&decide (a.tt=b.tt))=true then !fP (bc 0 a) (bc 1 b) nP else !fP (bc 0 a) (bc 1 b) LW)=nR a b:=by
  unfold nR mR;have e:(decide (a.tf=b.tf)&&decide (a.tt=b.tt))=mc a b:=rfl;rw[e];by_cases l:a.k=2<;>by_cases j:b.k=2
  .have q:cQ a 3=⟨a.fl,a.hf⟩:=by simp[cQ,l]
   have n:cQ b 3=⟨b.fl,b.hf⟩:=by simp[cQ,j]
   have:=K l;have:=J j;simp only[List.all_cons,List.all_nil,D,A,q,E,w,n];rw[bN (by simp;omega) (by simp;omega),bN (by simp;omega) (by simp;omega),bN (by simp;omega) (by simp;omega),bN (by simp;omega) (by simp;omega),bN (by simp;omega) (by simp;omega),bN (by simp;omega) (by simp;omega),bN (by simp;omega) (by simp;omega),bN (by simp;omega) (by simp;omega),bN (by simp;omega) (by simp;omega)];rw[j0 l,j0 j];cases mc a b<;>simp[fP,nP,LW,Bool.and_assoc]
  .have q:cQ a 3=⟨a.fl,a.hf⟩:=by simp[cQ,l]
   have n:cQ b 3=⟨0,0⟩:=by simp[cQ,j]
   have:=K l;simp only[List.all_cons,List.all_nil,D,A,q,E,w,n,qG];rw[bN (by simp;omega) (by simp;omega),bN (by simp;omega) (by simp;omega),bN (by simp;omega) (by simp;omega),bN (by simp;omega) (by simp;omega),bN (by simp;omega) (by simp;omega),bN (by simp;omega) (by simp;omega)];rw[j0 l,jZ j];cases mc a b<;>simp[fP,nP,LW,Bool.and_assoc]
  .have q:cQ a 3=⟨0,0⟩:=by simp[cQ,l]
   have n:cQ b 3=⟨b.fl,b.hf⟩:=by simp[cQ,j]
   have:=J j;simp only[List.all_cons,List.all_nil,D,A,q,E,w,n,Ag];rw[bN (by simp;omega) (by simp;omega),bN (by simp;omega) (by simp;omega),bN (by simp;omega) (by simp;omega),bN (by simp;omega) (by simp;omega),bN (by simp;omega) (by simp;omega),bN (by simp;omega) (by simp;omega)];rw[jZ l,j0 j];cases mc a b<;>simp[fP,nP,LW,Bool.and_assoc]
  .have q:cQ a 3=⟨0,0⟩:=by simp[cQ,l]
   have n:cQ b 3=⟨0,0⟩:=by simp[cQ,j]
   simp only[List.all_cons,List.all_nil,D,A,q,E,w,n,Ag,qG];rw[bN (by simp;omega) (by simp;omega),bN (by simp;omega) (by simp;omega),bN (by simp;omega) (by simp;omega),bN (by simp;omega) (by simp;omega)];rw[jZ l,jZ j];cases mc a b<;>simp[fP,nP,LW,Bool.and_assoc]
 have g1:∀k p:Int,gR a b 1=jW (bc 0 a) ⟨k,p,⟨b.tf,b.tt⟩⟩:=λk p=>by unfold gR;rw[v,E];simp[H]
 have g2:∀k p:Int,gR a b 2=jW (bc 0 a) ⟨k,p,⟨b.hf,b.ht⟩⟩:=λk p=>by unfold gR;rw[v,w];simp[I]
 unfold jx je;rw[u];simp only[g1 1 1,g2 1 2];by_cases j:b.k=2
 .have n:cQ b 3=⟨b.fl,b.hf⟩:=by simp[cQ,j]
  have F:=J j;have g3:∀k p:Int,gR a b 3=jW (bc 0 a) ⟨k,p,⟨b.fl,b.hf⟩⟩:=λk p=>by unfold gR;rw[v,n];simp[F]
  simp only[g3 1 3,j0 j,List.find?];cases jW (bc 0 a) ⟨1,1,⟨b.tf,b.tt⟩⟩ with
  |true=>simp[rR]
  |false=>
   cases jW (bc 0 a) ⟨1,2,⟨b.hf,b.ht⟩⟩ with
   |true=>simp only[rR,w];rw[<-o ⟨b.hf,b.ht⟩ 0];simp
   |false=>
    cases jW (bc 0 a) ⟨1,3,⟨b.fl,b.hf⟩⟩ with
    |true=>simp only[rR,n];rw[<-o ⟨b.fl,b.hf⟩ 0];simp
    |false=>simp
 .have n:cQ b 3=⟨0,0⟩:=by simp[cQ,j]
  have g3:gR a b 3=false:=by unfold gR;rw[n];simp
  simp only[g3,jZ j,List.find?];cases jW (bc 0 a) ⟨1,1,⟨b.tf,b.tt⟩⟩ with
  |true=>simp[rR]
  |false=>
   cases jW (bc 0 a) ⟨1,2,⟨b.hf,b.ht⟩⟩ with
   |true=>simp only[rR,w];rw[<-o ⟨b.hf,b.ht⟩ 0];simp
   |false=>simp
theorem KS {n:Cl->Int}{v j:Cl->Cl->Bool}(h:∀a b,n a=0->n b=0->v a b=j a b):∀(l pre:List Cl),(∀a∈pre,n a=0)->qe n v pre l=qe n j pre l:=by
 intro l;induction l with
 |nil=>intro pre _;rfl
 |cons c l w=>
  intro pre u;unfold qe;by_cases h0:n c=0
  .rw[if_pos h0,if_pos h0,show pre.all (λa=>v a c)=pre.all (λa=>j a c) from by rw[Bool.eq_iff_iff,List.all_eq_true,List.all_eq_true];exact⟨λq x o=>by rw[<-h x c (u x o) h0];exact q x o,λq x o=>by rw[h x c (u x o) h0];exact q x o⟩];rw[w (pre++ [c]) (λa ha=>by
    rcases List.mem_append.1 ha with ha|ha
    .exact u a ha
    .simp at ha;rw[ha];exact h0)]
  .rw[if_neg h0,if_neg h0]
theorem vI (n:Int) (l:List Cl):dH (iU n) jx l=dH (dp n) je l:=by
 have:iU n=dp n:=by funext c;exact IS n c
 rw[this];unfold dH;rw[KS (λa b ha j=>KE (Lp ha).1 (Lp j).1) l [] (by simp)]
end Rg
end Go.Proofs.YtknalmoackcpbaaGreat
