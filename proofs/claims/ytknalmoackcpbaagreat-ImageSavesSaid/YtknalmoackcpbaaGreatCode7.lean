/- Chapter 07: the document's Encode. -/
import Derived.Test.YtknalmoackcpbaaGreatSigL
set_option maxRecDepth 100000
set_option maxHeartbeats 3200000
set_option linter.all false
open Go Go.AW
namespace Go.Proofs.YtknalmoackcpbaaGreat
namespace Cd
open Tryz
abbrev l7:dW:=(.S 0 (.S 1 (.S 2 (.S 3 (.S 5 (.S 6 (.S 7 (.S 8 (.R 4 (.R 9 (.S 10 (.A 11 (.A 12 (.S 13 .D) .Z) .Z))))))))))))
abbrev mb:dW:=(.S 0 (.S 1 (.S 2 (.S 3 (.S 4 (.S 6 (.S 7 (.S 8 (.S 9 (.R 10 (.U 11 (.R 5 (.A 12 (.A 13 (.S 14 .D) .Z) .Z)))))))))))))
theorem aO (S:List Nat):cu prog [(17,l7),(12,mb)] S:=mixed
theorem BZ (l:List dM) (o:cA) (nl:Bool) (b4:∀x∈l,ez x) (hl:l.length≤140737488355328) (σ:AS):
 ad prog 151 [kV l o nl] σ (aq (Oi (cW l)) σ) No:=by
 have hp:=fun σ=>uH l o nl b4 hl σ;simp only[kV,fg,Oi]at hp⊢;by_cases ak:(bE l).2=0;rotate_left
 ·have e:cW l=([],(bE l).2):=by unfold cW;rw[if_neg ak]
  have e1:=sF ak;rw[e];rw[e1]at hp;generalize (bE l).2=pe at*;refine ad.ob func151 ?_;exact gE aO @ak @hp
 obtain⟨hlen,be,b6⟩:=pT ak;have e:cW l=if l.any (fY l.length)then([],11)else(fj (aK l 0) l 0,0):=by unfold cW;rw[if_pos ak]
 have b0:=kz l 0;have b3:∀y∈aK l 0,0≤y∧y≤10000:=fun y hy=>⟨mj l 0 y hy,by have:=mi l 0 y hy;omega⟩;have cd:¬aK l 0= []:=by intro e;rw[e]at b0;simp at b0
 rw[b6]at hp;simp only[cd,decide_false]at hp;generalize aK l 0=P at*;have ay:∀x∈l,dV x=true:=by simpa using be
 refine ad.ob func151 ?_;refine gO (S:= [5]) aO (j2 @ae @au) @hp ?_;refine aA.fG 6 5 [] true (by simp[ntmps151]) (.inr ⟨by simp,rfl,rfl⟩) ?_;simp-implicitDefEqProofs [ae,au];intro tk bv;refine gO aO (j2 @ae @au) tI ?_;refine aA.aY (α:=(Nat)×(zY)) ((0,[])) (fun⟨i,Y⟩=>l.length-i) (fun⟨i,Y⟩=>i≤l.length∧Y.length≤9*i∧l.any (fY l.length)=(l.drop i).any (fY l.length)∧Y++fj P (l.drop i) i=fj P l 0) [(0,?_),(4,?_)] (fun⟨i,Y⟩=> [(7,zI i),(6,.ah 5 (Y.map u8) (.tok tk) (decide (Y= [])))]) (fun⟨i,Y⟩=>σ.set tk (.tok Y.length)) ?_ ?_ ?_ ?_;rotate_left 2
 ·exact gF (j2 @ae @au)
 ·exact gT
 ·exact⟨by omega,by simp,rfl,rfl⟩
 intro x_ bb;obtain⟨i,Y⟩:=x_;try dsimp only at bb⊢
 obtain⟨hi,c2,Z,U⟩:=bb;simp only[fm];by_cases u:i<l.length
 ·have q:zW ((i:Int)+1)=((i+1:Nat):Int):=bh (by omega);rw[List.drop_eq_getElem_cons u]at Z U;have b5:=ay l[i] (List.getElem_mem u);have cj:=b4 l[i] (List.getElem_mem u);generalize X:l[i]=x at*;simp only[List.any_cons,fj]at Z U;obtain⟨r1,r2,r3,q0,q1,q3,q5,q6,q8⟩:=kZ b5;have G:=fun σ=>o4 x.op (by omega) σ;have c1:=mr x.op;have F:bJ x= .agg [zI x.op,zI x.arg,zI x.t.kind,zI x.t.index,zI x.t.cT,.sc (.bool x.t.ref)]:=rfl;have Q:=fun σ=>rF x.op σ;have cb:uV x.op=0:=by unfold uV;rw[if_neg (by omega)]
  rw[cb]at Q;have ca:(gZ x.op).2.1=oO x.op:=rfl;simp only[fO]at Q;rw[ca]at Q;obtain⟨c,hc⟩:∃c:UInt8,UInt8.ofNat (x.op%256).toNat=c:=⟨_,rfl⟩;have V:IntKind.u8.wrap x.op=(c.toNat:Int):=by rw[nO,←hc];simp;omega
  have v:Y.length≤1440:=by omega
  have a6:i+1<P.length:=by omega
  have c3:P.length≤1000:=by omega
  by_cases ac:fY l.length x=true
  ·have h5:oO x.op=5:=by simp[fY]at ac;exact ac.1
   have a0:((l.length:Int)≤x.arg)=True:=eq_true (by simp[fY]at ac;exact ac.2);rw[ac]at Z;simp only[Bool.true_or]at Z;rw[e,Z];rw[h5]at Q;clear G;refine gO aO (j6 u @X @F @ae @au @q) @Q ?_;intro H j E;have n:=ba j;refine gO aO (And.intro (j7 @a0 @V @v u @X @F @underlying3) (j5 @underlying5 @ae @au @q j)) tI ?_;exact aw (by simp[j,E]) (aw bv (lR _))
  ·have bf:fY l.length x=false:=by simpa using ac
   rw[bf]at Z;simp only[Bool.false_or]at Z;generalize ho:oO x.op=xo at*;have cc:xo=0∨xo=1∨xo=2∨xo=3∨xo=4∨xo=5∨xo=6∨xo=7∨xo=8:=by omega
   rcases cc with rfl|rfl|rfl|rfl|rfl|rfl|rfl|rfl|rfl
   ·have w:cS x (P.getD x.arg.toNat 0) (P.getD (i+1) 0)= [c]:=by simp[cS,ji,ho,hc]
    rw[w]at U;simp only[show eY 0=0 from rfl]at G;refine gO aO (j6 u @X @F @ae @au @q) @Q ?_;intro H j E;have n:=ba j;refine gO aO (And.intro (j7 @V @v u @X @F @underlying3 @underlying5) (j4 @ae @au @q j)) @G ?_;refine aH.mk ((i+1,Y++ [c])) (by(try dsimp only);omega) (gF (j5 @ae @au @q j n)) (by(try dsimp only);(intro I y_ ab;by_cases e1:I=tk<;>by_cases e2:I=H<;>simp_all [AS.set,an])) ?_;try dsimp only
    exact⟨u,by simp;omega,Z,by rw[←U];simp⟩
   ·have w:cS x (P.getD x.arg.toNat 0) (P.getD (i+1) 0)=c::aS (m64 x.arg) 4:=by simp[cS,ji,ho,hc,eY]
    rw[w]at U;have M:=fun σ=>kY (x.arg) 4 (by omega) (by omega) σ;simp only[show eY 1=4 from rfl]at G;refine gO aO (j6 u @X @F @ae @au @q) @Q ?_;intro H j E;have n:=ba j;refine gO aO (And.intro (j7 @V @v u @X @F @underlying3 @underlying5) (j4 @ae @au @q j)) (j2 @G @M) ?_;intro J K L O;have D:=ba L;have A:=ba K;simp-implicitDefEqProofs [L,K,D,A,an,ae,au,q,j,n];refine gO aO (And.intro (j7 @L @K @D @A @an @v @ae) (j3 @au @q j)) tI ?_;refine aH.mk ((i+1,Y++c::aS (m64 x.arg) 4)) (by(try dsimp only);omega) (gF (j5 @ae @au @q j n)) (by(try dsimp only);(intro I y_ ab;by_cases e1:I=tk<;>by_cases e2:I=H<;>by_cases e3:I=J<;>simp_all [AS.set,an])) ?_;try dsimp only
    exact⟨u,by simp[an];omega,Z,by rw[←U];simp⟩
   ·have w:cS x (P.getD x.arg.toNat 0) (P.getD (i+1) 0)=c::aS (m64 x.arg) 8:=by simp[cS,ji,ho,hc,eY]
    rw[w]at U;have M:=fun σ=>kY (x.arg) 8 (by omega) (by omega) σ;simp only[show eY 2=8 from rfl]at G;refine gO aO (j6 u @X @F @ae @au @q) @Q ?_;intro H j E;have n:=ba j;refine gO aO (And.intro (j7 @V @v u @X @F @underlying3 @underlying5) (j4 @ae @au @q j)) (j2 @G @M) ?_;intro J K L O;have D:=ba L;have A:=ba K;simp-implicitDefEqProofs [L,K,D,A,an,ae,au,q,j,n];refine gO aO (And.intro (j7 @L @K @D @A @an @v @ae) (j3 @au @q j)) tI ?_;refine aH.mk ((i+1,Y++c::aS (m64 x.arg) 8)) (by(try dsimp only);omega) (gF (j5 @ae @au @q j n)) (by(try dsimp only);(intro I y_ ab;by_cases e1:I=tk<;>by_cases e2:I=H<;>by_cases e3:I=J<;>simp_all [AS.set,an])) ?_;try dsimp only
    exact⟨u,by simp[an];omega,Z,by rw[←U];simp⟩
   ·have w:cS x (P.getD x.arg.toNat 0) (P.getD (i+1) 0)=c::aS (m64 x.arg) 1:=by simp[cS,ji,ho,hc,eY]
    rw[w]at U;have M:=fun σ=>kY (x.arg) 1 (by omega) (by omega) σ;simp only[show eY 3=1 from rfl]at G;refine gO aO (j6 u @X @F @ae @au @q) @Q ?_;intro H j E;have n:=ba j;refine gO aO (And.intro (j7 @V @v u @X @F @underlying3 @underlying5) (j4 @ae @au @q j)) (j2 @G @M) ?_;intro J K L O;have D:=ba L;have A:=ba K;simp-implicitDefEqProofs [L,K,D,A,an,ae,au,q,j,n];refine gO aO (And.intro (j7 @L @K @D @A @an @v @ae) (j3 @au @q j)) tI ?_;refine aH.mk ((i+1,Y++c::aS (m64 x.arg) 1)) (by(try dsimp only);omega) (gF (j5 @ae @au @q j n)) (by(try dsimp only);(intro I y_ ab;by_cases e1:I=tk<;>by_cases e2:I=H<;>by_cases e3:I=J<;>simp_all [AS.set,an])) ?_;try dsimp only
    exact⟨u,by simp[an];omega,Z,by rw[←U];simp⟩
   ·have w:cS x (P.getD x.arg.toNat 0) (P.getD (i+1) 0)=c::aS (m64 x.arg) 1:=by simp[cS,ji,ho,hc,eY]
    rw[w]at U;have M:=fun σ=>kY (x.arg) 1 (by omega) (by omega) σ;simp only[show eY 4=1 from rfl]at G;refine gO aO (j6 u @X @F @ae @au @q) @Q ?_;intro H j E;have n:=ba j;refine gO aO (And.intro (j7 @V @v u @X @F @underlying3 @underlying5) (j4 @ae @au @q j)) (j2 @G @M) ?_;intro J K L O;have D:=ba L;have A:=ba K;simp-implicitDefEqProofs [L,K,D,A,an,ae,au,q,j,n];refine gO aO (And.intro (j7 @L @K @D @A @an @v @ae) (j3 @au @q j)) tI ?_;refine aH.mk ((i+1,Y++c::aS (m64 x.arg) 1)) (by(try dsimp only);omega) (gF (j5 @ae @au @q j n)) (by(try dsimp only);(intro I y_ ab;by_cases e1:I=tk<;>by_cases e2:I=H<;>by_cases e3:I=J<;>simp_all [AS.set,an])) ?_;try dsimp only
    exact⟨u,by simp[an];omega,Z,by rw[←U];simp⟩
   ·obtain⟨a1,a2⟩:=q5 rfl;have a0:((l.length:Int)≤x.arg)=False:=eq_false (by simp[fY,ho]at ac;omega);have a3:x.arg<P.length:=by simp[fY,ho]at ac;omega
    have a4:x.arg.toNat<P.length:=by omega
    have a5:((i:Int)+1:Int)<P.length:=by omega
    have b1:=b3 _ (List.getElem_mem a4);have b2:=b3 _ (List.getElem_mem a6);have g1:P[x.arg.toNat]? =some P[x.arg.toNat]:=List.getElem?_eq_getElem a4;have g2:P[i+1]? =some P[i+1]:=List.getElem?_eq_getElem a6;have g3:P.getD x.arg.toNat 0=P[x.arg.toNat]:=by simp[List.getD_eq_getElem?_getD,a4]
    have g4:P.getD (i+1) 0=P[i+1]:=by simp[List.getD_eq_getElem?_getD,a6]
    rw[g3,g4]at U;generalize P[x.arg.toNat]=p1 at*;generalize P[i+1]=p2 at*;have ai:zW (p1-p2)=p1-p2:=aI (by omega) (by omega);have w:cS x p1 p2=c::aS (m64 (p1-p2)) 2:=by simp[cS,ji,ho,hc,eY]
    rw[w]at U;have M:=fun σ=>kY (p1-p2) 2 (by omega) (by omega) σ;simp only[show eY 5=2 from rfl]at G;refine gO aO (j6 u @X @F @ae @au @q) @Q ?_;intro H j E;have n:=ba j;refine gO aO (And.intro (j7 @V @v u @X @F @a0 @a3) (And.intro (j7 @a5 @g1 @g2 @ai @aG @underlying3 @underlying5) (j4 @ae @au @q j))) (j2 @G @M) ?_;intro J K L O;have D:=ba L;have A:=ba K;simp-implicitDefEqProofs [L,K,D,A,an,ae,au,q,j,n];refine gO aO (And.intro (j7 @L @K @D @A @an @v @ae) (j3 @au @q j)) tI ?_;refine aH.mk ((i+1,Y++c::aS (m64 (p1-p2)) 2)) (by(try dsimp only);omega) (gF (j5 @ae @au @q j n)) (by(try dsimp only);(intro I y_ ab;by_cases e1:I=tk<;>by_cases e2:I=H<;>by_cases e3:I=J<;>simp_all [AS.set,an])) ?_;try dsimp only
    exact⟨u,by simp[an];omega,Z,by rw[←U];simp⟩
   ·obtain⟨a1,a2⟩:=q6 (by simp);have ai:zW (x.arg+1)=x.arg+1:=aI (by omega) (by omega);have w:cS x (P.getD x.arg.toNat 0) (P.getD (i+1) 0)=c::aS (m64 (x.arg+1)) 2:=by simp[cS,ji,ho,hc,eY]
    rw[w]at U;have M:=fun σ=>kY (x.arg+1) 2 (by omega) (by omega) σ;simp only[show eY 6=2 from rfl]at G;refine gO aO (j6 u @X @F @ae @au @q) @Q ?_;intro H j E;have n:=ba j;refine gO aO (And.intro (j7 @V @v u @X @F @ai @underlying3) (j5 @underlying5 @ae @au @q j)) (j2 @G @M) ?_;intro J K L O;have D:=ba L;have A:=ba K;simp-implicitDefEqProofs [L,K,D,A,an,ae,au,q,j,n];refine gO aO (And.intro (j7 @L @K @D @A @an @v @ae) (j3 @au @q j)) tI ?_;refine aH.mk ((i+1,Y++c::aS (m64 (x.arg+1)) 2)) (by(try dsimp only);omega) (gF (j5 @ae @au @q j n)) (by(try dsimp only);(intro I y_ ab;by_cases e1:I=tk<;>by_cases e2:I=H<;>by_cases e3:I=J<;>simp_all [AS.set,an])) ?_;try dsimp only
    exact⟨u,by simp[an];omega,Z,by rw[←U];simp⟩
   ·obtain⟨a1,a2⟩:=q6 (by simp);have ai:zW (x.arg+1)=x.arg+1:=aI (by omega) (by omega);have w:cS x (P.getD x.arg.toNat 0) (P.getD (i+1) 0)=c::aS (m64 (x.arg+1)) 2:=by simp[cS,ji,ho,hc,eY]
    rw[w]at U;have M:=fun σ=>kY (x.arg+1) 2 (by omega) (by omega) σ;simp only[show eY 7=2 from rfl]at G;refine gO aO (j6 u @X @F @ae @au @q) @Q ?_;intro H j E;have n:=ba j;refine gO aO (And.intro (j7 @V @v u @X @F @ai @underlying3) (j5 @underlying5 @ae @au @q j)) (j2 @G @M) ?_;intro J K L O;have D:=ba L;have A:=ba K;simp-implicitDefEqProofs [L,K,D,A,an,ae,au,q,j,n];refine gO aO (And.intro (j7 @L @K @D @A @an @v @ae) (j3 @au @q j)) tI ?_;refine aH.mk ((i+1,Y++c::aS (m64 (x.arg+1)) 2)) (by(try dsimp only);omega) (gF (j5 @ae @au @q j n)) (by(try dsimp only);(intro I y_ ab;by_cases e1:I=tk<;>by_cases e2:I=H<;>by_cases e3:I=J<;>simp_all [AS.set,an])) ?_;try dsimp only
    exact⟨u,by simp[an];omega,Z,by rw[←U];simp⟩
   ·have w:cS x (P.getD x.arg.toNat 0) (P.getD (i+1) 0)=c::aS (m64 x.arg) 2:=by simp[cS,ji,ho,hc,eY]
    rw[w]at U;have M:=fun σ=>kY (x.arg) 2 (by omega) (by omega) σ;simp only[show eY 8=2 from rfl]at G;refine gO aO (j6 u @X @F @ae @au @q) @Q ?_;intro H j E;have n:=ba j;refine gO aO (And.intro (j7 @V @v u @X @F @underlying3 @underlying5) (j4 @ae @au @q j)) (j2 @G @M) ?_;intro J K L O;have D:=ba L;have A:=ba K;simp-implicitDefEqProofs [L,K,D,A,an,ae,au,q,j,n];refine gO aO (And.intro (j7 @L @K @D @A @an @v @ae) (j3 @au @q j)) tI ?_;refine aH.mk ((i+1,Y++c::aS (m64 x.arg) 2)) (by(try dsimp only);omega) (gF (j5 @ae @au @q j n)) (by(try dsimp only);(intro I y_ ab;by_cases e1:I=tk<;>by_cases e2:I=H<;>by_cases e3:I=J<;>simp_all [AS.set,an])) ?_;try dsimp only
    exact⟨u,by simp[an];omega,Z,by rw[←U];simp⟩
 ·rw[List.drop_eq_nil_of_le (by omega)]at U Z;rw[e,Z];simp only[fj,List.append_nil]at U;repeat (first
   |refine g1 ?_
   |((first|refine g2 ?_ |((with_reducible apply dX 17 l7);refine dY mixed ?_)|((with_reducible apply dX 12 mb);refine dY mixed ?_));simp-implicitDefEqProofs [u,←U,ae,au])
   |(refine g3 ?_;try simp-implicitDefEqProofs [u,←U,ae,au]))
  all_goals exact gJ tI
end Cd
namespace Im
open Tryz
open Sg (aE bL)
open Pl (sV)
open Rg (Cl jg bw)
open Cd (oO kS kV bE cW ez)
open Bd (R6 dx b8 bP xB)
variable {k:SK} {en:Int} {d:SD} {T:DR} {B τ:AS}
theorem DI.wr (h:DI k en d T B τ) {i:Nat}{x b:cL}(v:B i=some x):DI k en d T (B.set i b) (τ.set i b):=by
 have w:∀j∈cm k T,j≠i:=by rintro j n rfl;rw[h.fr j n]at v;cases v
 have l:∀j∈cm k T,∀σ:AS,(σ.set i b) j=σ j:=fun j n σ=>AS.ag _ _ (w j n);have q:∀ {j:Nat},j∈T.map (·.1)++T.flatMap (fun x=>x.2.map (·.1))→j∈cm k T:=fun n=>by simp only[cm,List.mem_cons];simp only[n,or_true]
 exact⟨(l _ (by simp[cm]) _).trans h.aF,(l _ (by simp[cm]) _).trans h.bj,(l _ (by simp[cm]) _).trans h.tS,(l _ (by simp[cm]) _).trans h.tL,(l _ (by simp[cm]) _).trans h.tN,(l _ (by simp[cm]) _).trans h.tB,(l _ (by simp[cm]) _).trans h.tC,
  fun x o=>(l _ (q (List.mem_append_left _ (List.mem_map.2 ⟨x,o,rfl⟩))) _).trans (h.vX x o),fun x o p u=>(l _ (q (List.mem_append_right _ (List.mem_flatMap.2 ⟨x,o,List.mem_map.2 ⟨p,u,rfl⟩⟩))) _).trans (h.row x o p u),
  iM h.le,h.qj,h.nd,fun j n=>(l j n _).trans (h.fr j n)⟩
theorem DI.my (h:DI k en d T B τ) {i:Nat}(j:τ i=none):B i=none:=iN h.le j
theorem DI.IH (h:DI k en d T B τ) (m:Mt) (hm:m.code= []):
 ad prog 84 [.ptr k.aF 0,fM m] τ (fun r l=>r=zI 0∧DI k en d T B l) No:=by
 refine ad.ob func84 ?_;simp only[aT,hm];refine gO aa tI tI ?_;intro n j;refine gO aa tI tI ?_;exact⟨_,_,Wk.refl _,lR _,rfl,(h.own j).drop (AS.ao (lR _) (h.my j))⟩
theorem DI.eW {C:AS}{j l:Nat}{b:zY}{rs:List R6}(h:DI k en d T ((C.set j (iQ b rs l)).set l (.tok rs.length)) τ) (n:j≠l) (x:R6):
 DI k en d T ((C.set j (iQ b (rs++ [x]) l)).set l (.tok (rs.length+1))) ((τ.set l (.tok (rs.length+1))).set j (iQ b (rs++ [x]) l)):=by
 have h1:=(h.wr (i:=l) (b:= .tok (rs.length+1)) (AS.aD _ _ _)).wr (i:=j) (b:=iQ b (rs++ [x]) l) (by rw[AS.ag _ _ n,AS.ag _ _ n,AS.aD]);rwa [AS.set_set,AS.set_comm (Ne.symm n),AS.set_set]at h1
theorem J1 {a c j l:Nat}(n:l=(4-a%4)%4) (o:j≤l) (q:c=a+j):(j<l→(0<(c:Int).tmod 4)=True)∧(¬j<l→(0<(c:Int).tmod 4)=False∧j=l):=by have h:((c:Int).tmod 4)=((c%4:Nat):Int):=rfl;rw[h];exact⟨fun h=>eq_true (by omega),fun h=>⟨eq_false (by omega),by omega⟩⟩
theorem Mq (w:UInt8):(((w.toNat:Nat):Int).tmod 4=3)=(w.toNat%4=3):=by have h:(((w.toNat:Nat):Int).tmod 4)=((w.toNat%4:Nat):Int):=rfl;rw[h];simp only[eq_iff_iff];omega
def Qf (k:SK) (en:Int) (d:SD) (T:DR) (B:AS) (m:Mt) (r:AV) (j:AS):Prop:=
 r=zI ((qz d.co (xR d.sp m)).length+1)∧DI k en { d with sp:=xS d.sp m,co:=qz d.co (xR d.sp m)++xR d.sp m } T B j
theorem DI.IG (h:DI k en d T B τ) (m:Mt) (hm:0<m.code.length) (hM:m.code.length≤160) (hO:m.cls.length≤100) (hg:m.cn=true→m.code= []) (hC:∀c∈m.cls,F5 (tz d.sp m) c) (hW:bP (wP d.sp m) (Lt d.sp m)=true)
 (b1:∀x∈(ct d.sp m.code).2,ez x) (hd:d.sp.length≤80000) (he:d.co.length≤100000000):
 ad prog 84 [.ptr k.aF 0,fM m] τ (Qf k en d T B m) No:=by
 have ec:m.cn=false:=by
  cases hc:m.cn with
  |false=>rfl
  |true=>have:=hg hc;rw[this]at hm;simp at hm
 have hL:=mh m.code d.sp;have cd:=fun(x:dM) σ=>rF x.op σ;simp only[fO]at cd;refine ad.ob func84 ?_;simp only[aT,ec];have g7:m.code≠ []:=by rintro e;rw[e]at hm;simp at hm
 refine gO aa tI tI ?_;intro L ck;have h3:=h.own (b:= .cells 53 (fM m).cells) ck;simp only[aT,bq,ec]at h3;refine gO (S:= [4]) aa @g7 tI ?_;refine aA.fG 5 110 [] true (by simp[ntmps84]) (.inr ⟨by simp,rfl,rfl⟩) ?_;simp-implicitDefEqProofs;intro tk O ei;have bf:=ba O;have hr:=h.my ck;have hq:=h.my ei;have k3:(B.set L (.cells 53 [zS m.name,zI m.owner,zI m.flags,.ah 49 (m.ps.map cB) .aJ m.pn,zI m.ret.kind,zI m.ret.index,zI m.ret.cT,.sc (.bool m.ret.ref),.ah 49 (m.ls.map cB) .aJ m.ln,zI m.max,.ah 110 (m.code.map bJ) .aJ false,.ah 158 (m.cls.map jg) .aJ m.xn])) L=some (.cells 53 [zS m.name,zI m.owner,zI m.flags,.ah 49 (m.ps.map cB) .aJ m.pn,zI m.ret.kind,zI m.ret.index,zI m.ret.cT,.sc (.bool m.ret.ref),.ah 49 (m.ls.map cB) .aJ m.ln,zI m.max,.ah 110 (m.code.map bJ) .aJ false,.ah 158 (m.cls.map jg) .aJ m.xn]):=by simp
 have hA:AS.le B (B.set L (.cells 53 [zS m.name,zI m.owner,zI m.flags,.ah 49 (m.ps.map cB) .aJ m.pn,zI m.ret.kind,zI m.ret.index,zI m.ret.cT,.sc (.bool m.ret.ref),.ah 49 (m.ls.map cB) .aJ m.ln,zI m.max,.ah 110 (m.code.map bJ) .aJ false,.ah 158 (m.cls.map jg) .aJ m.xn])):=AS.ao (lR _) hr;have hs:(B.set L (.cells 53 [zS m.name,zI m.owner,zI m.flags,.ah 49 (m.ps.map cB) .aJ m.pn,zI m.ret.kind,zI m.ret.index,zI m.ret.cT,.sc (.bool m.ret.ref),.ah 49 (m.ls.map cB) .aJ m.ln,zI m.max,.ah 110 (m.code.map bJ) .aJ false,.ah 158 (m.cls.map jg) .aJ m.xn])) tk=none:=by rw[AS.ag _ _ O];exact hq
 have ft:(τ.set L (.cells 53 [zS m.name,zI m.owner,zI m.flags,.ah 49 (m.ps.map cB) .aJ m.pn,zI m.ret.kind,zI m.ret.index,zI m.ret.cT,.sc (.bool m.ret.ref),.ah 49 (m.ls.map cB) .aJ m.ln,zI m.max,.ah 110 (m.code.map bJ) .aJ false,.ah 158 (m.cls.map jg) .aJ m.xn])) tk=none:=by rw[AS.ag _ _ O];exact ei
 generalize B.set L (.cells 53 [zS m.name,zI m.owner,zI m.flags,.ah 49 (m.ps.map cB) .aJ m.pn,zI m.ret.kind,zI m.ret.index,zI m.ret.cT,.sc (.bool m.ret.ref),.ah 49 (m.ls.map cB) .aJ m.ln,zI m.max,.ah 110 (m.code.map bJ) .aJ false,.ah 158 (m.cls.map jg) .aJ m.xn])=A at*;generalize τ.set L (.cells 53 [zS m.name,zI m.owner,zI m.flags,.ah 49 (m.ps.map cB) .aJ m.pn,zI m.ret.kind,zI m.ret.index,zI m.ret.cT,.sc (.bool m.ret.ref),.ah 49 (m.ls.map cB) .aJ m.ln,zI m.max,.ah 110 (m.code.map bJ) .aJ false,.ah 158 (m.cls.map jg) .aJ m.xn])=gs at*;have h4:=h3.own (b:= .tok 0) ft;refine gO aa tI tI ?_;refine aA.aY (α:=(Nat)×(List Ty)×(List dM)×(AS)) ((0,d.sp,[],gs.set tk (.tok 0))) (fun⟨i,sp,V,al⟩=>m.code.length-i) (fun⟨i,sp,V,al⟩=>i≤m.code.length∧V.length=i∧DI k en { d with sp:=sp } T (A.set tk (.tok V.length)) al∧ct d.sp m.code=((ct sp (m.code.drop i)).1,V++(ct sp (m.code.drop i)).2)∧sp.length≤d.sp.length+i) [(0,?_),(3,?_)] (fun⟨i,sp,V,al⟩=> [(6,zI i),(5,.ah 110 (V.map bJ) (.tok tk) (decide (V= [])))]) (fun⟨i,sp,V,al⟩=>al) ?_ ?_ ?_ ?_;rotate_left 2
 ·exact gF tI
 ·(try dsimp only);exact lR _
 ·exact⟨by omega,rfl,h4,by simp,by simp⟩
 intro x_ a0;obtain⟨i,sp,V,al⟩:=x_;try dsimp only at a0⊢
 obtain⟨hi,e4,hS,hR,g6⟩:=a0;simp only[fm];have r3:=hS.le L _ (by rw[AS.ag _ _ bf];exact k3);have rk:=hS.le tk _ (AS.aD _ _ _);by_cases M:i<m.code.length
 ·have Y:IntKind.i64.wrap ((i:Int)+1)=((i+1:Nat):Int):=bh (by omega);rw[List.drop_eq_getElem_cons M]at hR;simp only[ct]at hR;generalize hx:m.code[i]=x at*;have ea:=cd x;rw[show(gZ x.op).2.1=oO x.op from rfl]at ea;have hN:V.length≤1000:=by omega
  refine gO aa (j5 M @hx @eu @r3 @ae) tI ?_;intro ar Q;have ab:¬L=ar:=nq r3 Q;have a3:=ba ab;have F:¬tk=ar:=nq rk Q;have be:=ba F;have f9:=hS.own (b:= .cells 110 (bJ x).cells) Q;simp only[eu,bq]at f9;refine gO aa tI @ea ?_;intro a4 l ci;have J:=ba l;have cv:al a4=none:=by simpa[AS.set,l]using ci
  have Z:¬L=a4:=nq r3 cv;have a2:=ba Z;have I:¬tk=a4:=nq rk cv;have a9:=ba I;have hk:=f9.own (i:=a4) (b:= .cells 194 [.sc (.string ⟨(gZ x.op).1.toArray⟩),zI (oO x.op),zI ((gZ x.op).2.2)]) (by simpa[AS.set,l]using ci);have f3:AS.le (A.set tk (.tok V.length)) (((A.set tk (.tok V.length)).set ar (.cells 110 [zI x.op,zI x.arg,zI x.t.kind,zI x.t.index,zI x.t.cT,.sc (.bool x.t.ref)])).set a4 (.cells 194 [.sc (.string ⟨(gZ x.op).1.toArray⟩),zI (oO x.op),zI ((gZ x.op).2.2)])):=
   AS.ao (AS.ao (lR _) (hS.my Q)) (hS.my cv)
  by_cases h8:oO x.op=8
  ·rw[if_pos h8]at hR;have cb:=hk.spec x.t (by simp only;omega);simp only[aE]at cb;rw[h8]at cb f3;refine gO aa (j2 @h8 l) tI ?_;refine aj.of cb ?_ (fun _ _ h=>h.elim);rintro r af ⟨rfl,h9⟩;have q7:=h9.le ar _ (by rw[AS.ag _ _ J,AS.aD]);have qk:=h9.le tk _ (by rw[AS.ag _ _ I,AS.ag _ _ F,AS.aD]);simp-implicitDefEqProofs [ae,au,Y,a3,ab,r3,be,F,rk,l,J,a2,Z,a9,I];refine gO aa (j4 @q7 @qk @Y F) tI ?_;have f4:AS.le (A.set tk (.tok V.length)) (((((A.set tk (.tok V.length)).set ar (.cells 110 [zI x.op,zI x.arg,zI x.t.kind,zI x.t.index,zI x.t.cT,.sc (.bool x.t.ref)])).set a4 (.cells 194 [.sc (.string ⟨(gZ x.op).1.toArray⟩),zI 8,zI ((gZ x.op).2.2)])).set ar (.cells 110 [zI x.op,zI (kU sp x.t),zI 0,zI 0,zI 0,zB false]))):=fun j b hj=>by
    have e7:j≠ar:=by rintro rfl;rw[hS.my Q]at hj;cases hj
    have e8:j≠a4:=by rintro rfl;rw[hS.my cv]at hj;cases hj
    rw[AS.ag _ _ e7,AS.ag _ _ e8,AS.ag _ _ e7];exact hj
   have a7:=((h9.wr (i:=ar) (b:= .cells 110 [zI x.op,zI (kU sp x.t),zI 0,zI 0,zI 0,zB false]) (by rw[AS.ag _ _ J,AS.aD])).drop f4).wr (i:=tk) (b:= .tok (V.length+1)) (AS.aD _ _ _);rw[AS.set_set]at a7;have hb:=lj sp x.t;refine aH.mk ((i+1,jJ sp x.t,V++ [⟨x.op,kU sp x.t,kS⟩],(af.set ar (.cells 110 [zI x.op,zI (kU sp x.t),zI 0,zI 0,zI 0,zB false])).set tk (.tok (V.length+1)))) (by(try dsimp only);omega) (gF (j2 @eu @kS.eq_1)) gT ?_;try dsimp only
   refine⟨M,by simp[e4],?_,by rw[hR];simp,by omega⟩;simp only[List.length_append,List.length_singleton];exact a7
  ·rw[if_neg h8]at hR;refine gO aa (j6 @h8 @rk @Y F l I) tI ?_;have a7:=hS.wr (i:=tk) (b:= .tok (V.length+1)) (AS.aD _ _ _);rw[AS.set_set]at a7;refine aH.mk ((i+1,sp,V++ [x],al.set tk (.tok (V.length+1)))) (by(try dsimp only);omega) (gF @eu) (by(try dsimp only);exact iM (aw (by simpa[AS.set,l]using cv) (aw Q (lR _)))) ?_;try dsimp only
   refine⟨M,by simp[e4],?_,by rw[hR];simp,by omega⟩;simp only[List.length_append,List.length_singleton];exact a7
 ·rw[List.drop_eq_nil_of_le (by omega)]at hR;simp only[ct,List.append_nil]at hR;have ho:(ct d.sp m.code).1=sp:=by rw[hR]
  have gb:(ct d.sp m.code).2=V:=by rw[hR]
  rw[gb]at b1;have e1:=fun σ=>Cd.uH V (.tok tk) (decide (V= [])) b1 (by omega) σ;have e3:=fun σ=>Cd.BZ V (.tok tk) (decide (V= [])) b1 (by omega) σ;simp only[kV,Cd.fg,Cd.Oi]at e1 e3;refine gO aa (j3 M @r3 @ae) (j2 @e1 @e3) ?_;have d8:=hS.drop (AS.ao (lR _) hs);have c2:=d8.le L _ k3;subst ho;subst gb;clear hS hR e1 e3 rk r3 hi e4 g6 M;rw[show(cW (ct d.sp m.code).2).1=wP d.sp m from rfl,show(bE (ct d.sp m.code).2).1=tz d.sp m from rfl];have dl:xS d.sp m=(gI (tz d.sp m) (ct d.sp m.code).1 m.cls).1:=rfl;have db:Lt d.sp m=(gI (tz d.sp m) (ct d.sp m.code).1 m.cls).2:=rfl;have hp:(tz d.sp m).length≤1000000:=by have:=Ht (ct d.sp m.code).2;unfold tz;omega
  intro D av;have E:¬L=D:=nq c2 av;have U:=ba E;refine aA.sI D 1 221 [] true (ty:=219) (cs:= [.ah 5 ((wP d.sp m).map u8) .aJ (decide (wP d.sp m= [])),.aC]) (by simp) (by simp) (.inr ⟨by simp,rfl,rfl⟩) ?_;simp-implicitDefEqProofs [ae,au,U,E,c2];intro v q a6;have u:=ba q;have K:¬L=v:=nq c2 a6;have a1:=ba K;have h5:=((d8.own (b:=iQ (wP d.sp m) [] v) av).own (i:=v) (b:= .tok 0) (by simpa[AS.set,q]using a6));generalize hP:tz d.sp m=P at*;generalize hB:(ct d.sp m.code).1=em at*;generalize hE:wP d.sp m=bb at*;clear h3 h4;refine gO aa tI tI ?_;refine aA.aY (α:=(Nat)×(List Ty)×(List R6)×(AS)) ((0,em,[],((al.set D (iQ bb [] v)).set v (.tok 0)))) (fun⟨i,sp,rs,af⟩=>m.cls.length-i) (fun⟨i,sp,rs,af⟩=>i≤m.cls.length∧rs.length=i∧DI k en { d with sp:=sp } T ((A.set D (iQ bb rs v)).set v (.tok rs.length)) af∧gI P em m.cls=((gI P sp (m.cls.drop i)).1,rs++(gI P sp (m.cls.drop i)).2)∧sp.length≤em.length+i) [(0,?_),(3,?_),(11,?_),(15,?_)] (fun⟨i,sp,rs,af⟩=> [(16,zI i)]) (fun⟨i,sp,rs,af⟩=>af) ?_ ?_ ?_ ?_;rotate_left 4
  ·exact gF tI
  ·(try dsimp only);exact lR _
  ·exact⟨by omega,rfl,h5,by simp,by simp⟩
  intro x_ a0;obtain⟨i,sp,rs,af⟩:=x_;try dsimp only at a0⊢
  obtain⟨hi,fz,hS,hR,hy⟩:=a0;simp only[fm];have r3:=hS.le L _ (by rw[AS.ag _ _ K,AS.ag _ _ E];exact k3);have ca:=hS.le D _ (by rw[AS.ag _ _ u,AS.aD]);have rk:=hS.le v _ (AS.aD _ _ _);rw[oK]at ca;by_cases M:i<m.cls.length
  ·have Y:IntKind.i64.wrap ((i:Int)+1)=((i+1:Nat):Int):=bh (by omega);rw[List.drop_eq_getElem_cons M]at hR;simp only[gI]at hR;have hh:=hC m.cls[i] (List.getElem_mem M);generalize hc:m.cls[i]=c at*;have fv:=fun σ=>G5 P .aJ (decide (P= [])) c hh hp σ;have ce:(cC P c).kd=c.k:=rfl;simp only[bw,dx]at fv;have hD:rs.length≤1000:=by omega
   refine gO aa (j5 M @hc @bw @r3 @ae) @fv ?_;intro ac G;have n:¬D=ac:=nq ca G;have ap:=ba n;have o:¬v=ac:=nq rk G;have ax:=ba o;have H:¬L=ac:=nq r3 G;have ay:=ba H;have h7:=hS.own (b:= .cells 221 [zI ((cC P c).kd),zI ((cC P c).ta),zI ((cC P c).tl),zI ((cC P c).ha),zI ((cC P c).hl),zI ((cC P c).ex)]) G;have e2:AS.le ((A.set D (iQ bb rs v)).set v (.tok rs.length)) (((A.set D (iQ bb rs v)).set v (.tok rs.length)).set ac (.cells 221 [zI ((cC P c).kd),zI ((cC P c).ta),zI ((cC P c).tl),zI ((cC P c).ha),zI ((cC P c).hl),zI ((cC P c).ex)])):=AS.ao (lR _) (hS.my G);by_cases bv:c.k=1
   ·rw[if_pos bv]at hR;have cc:=h7.spec (rr c) (by simp only;omega);simp only[aE,rr]at cc;simp only[ce,bv]at cc e2;refine gO aa (j8 @bv @ce @r3 M @hc @bw @ae H) tI ?_;refine aj.of cc ?_ (fun _ _ h=>h.elim);rintro r X ⟨rfl,h8⟩;have fb:=h8.le ac _ (AS.aD _ _ _);have eo:=h8.le D _ (by rw[AS.ag _ _ n,AS.ag _ _ u,AS.aD]);have qk:=h8.le v _ (by rw[AS.ag _ _ o,AS.aD]);rw[oK]at eo;simp-implicitDefEqProofs [eo,qk,fb,ae,au,U,E,c2,a1,K,q,u,Y,ap,n,ca,ax,o,rk,ay,H,r3];refine gO aa (j7 @eo @qk @fb q @Y n o) tI ?_;have h9:=(h8.wr (i:=ac) (b:= .cells 221 [zI 1,zI ((cC P c).ta),zI ((cC P c).tl),zI ((cC P c).ha),zI ((cC P c).hl),zI (kU sp (rr c))]) (AS.aD _ _ _));rw[AS.set_set]at h9;have a7:=(h9.drop (B':=((A.set D (iQ bb rs v)).set v (.tok rs.length))) (AS.ao (lR _) (hS.my G))).eW u { cC P c with ex:=kU sp (rr c) };have hb:=lj sp (rr c);refine aH.mk ((i+1,jJ sp (rr c),rs++ [{ cC P c with ex:=kU sp (rr c) }],((X.set ac (.cells 221 [zI 1,zI ((cC P c).ta),zI ((cC P c).tl),zI ((cC P c).ha),zI ((cC P c).hl),zI (kU sp (rr c))])).set v (.tok (rs.length+1))).set D (iQ bb (rs++ [{ cC P c with ex:=kU sp (rr c) }]) v))) (by(try dsimp only);omega) (gF tI) (by(try dsimp only);(rw[qY];simp only[dx,ce,bv];exact lR _)) ?_;try dsimp only
    refine⟨M,by simp[fz],?_,by rw[hR];simp,by omega⟩;simp only[List.length_append,List.length_singleton];exact a7
   ·rw[if_neg bv]at hR;refine gO aa (j8 @bv @ce @ca @rk q @Y n o) tI ?_;refine aH.mk ((i+1,sp,rs++ [cC P c],(af.set v (.tok (rs.length+1))).set D (iQ bb (rs++ [cC P c]) v))) (by(try dsimp only);omega) (gF tI) (by(try dsimp only);(rw[qY];simp only[dx,ce];exact iM (iM (aw G (lR _))))) ?_;try dsimp only
    refine⟨M,by simp[fz],?_,by rw[hR];simp,by omega⟩;have:=hS.eW u (cC P c);simpa using this
  ·rw[List.drop_eq_nil_of_le (by omega)]at hR;simp only[gI,List.append_nil]at hR;rw[hR]at dl db;simp only at dl db;rw[db]at hW;have bs:=fun σ=>Bd.Eu bb rs .aJ (.tok v) (decide (bb= [])) (decide (rs= [])) hW σ;have c9:xR d.sp m=b8 bb rs:=by unfold xR;rw[hE,db]
   obtain⟨w0,W0,et⟩:=wN bb rs;rw[et]at c9;rw[et]at bs;simp only[xB]at bs;refine gO aa (j4 M @r3 @ca @ae) @bs ?_;intro tw eg;have d9:=hS.own (b:= .tok (W0.length+1)) eg;have a8:AS.le B (((A.set D (iQ bb rs v)).set v (.tok rs.length)).set tw (.tok (W0.length+1))):=by
    have f10:A D=none:=d8.my av;have fk:A v=none:=d8.my a6;have fw:B tw=none:=by
     cases hx:B tw with
     |none=>rfl
     |some y=>have h1:=hA tw y hx;have hv:tw≠D:=nq f10 h1;have ek:tw≠v:=nq fk h1;have h2:=hS.my eg;rw[AS.ag _ _ ek,AS.ag _ _ hv,h1]at h2;cases h2
    refine AS.ao (AS.ao (AS.ao hA ?_) ?_) fw
    ·exact iN hA f10
    ·exact iN hA fk
   have hu:=d9.drop a8;generalize (af.set tw (.tok (W0.length+1)))=S0 at*;obtain⟨pd,a5,f0⟩:∃pd:Nat,pd=(if w0.toNat%4=3 then(4-d.co.length%4)%4 else 0)∧qz d.co (xR d.sp m)=d.co++List.replicate pd 0:=by refine⟨_,rfl,?_⟩;rw[c9,qz];by_cases h3:w0.toNat%4=3<;>simp[h3]
   refine gO aa tI tI ?_;refine aA.aY (α:=(Nat)×(AS)) ((0,S0)) (fun⟨j,X⟩=>pd-j) (fun⟨j,X⟩=>j≤pd∧DI k en { d with sp:=sp,co:=d.co++List.replicate j 0 } T B X) [(0,?_)] (fun⟨j,X⟩=> [(20,.ah 5 ((w0::W0).map u8) .aJ false)]) (fun⟨j,X⟩=>X) ?_ ?_ ?_ ?_;rotate_left 1
   ·exact gF tI
   ·(try dsimp only);exact lR _
   ·exact⟨by omega,by simpa using hu⟩
   intro x_ a0;obtain⟨j,X⟩:=x_;try dsimp only at a0⊢
   obtain⟨hj,b0⟩:=a0;simp only[fm];have ee:(d.co++List.replicate j 0).length=d.co.length+j:=by simp
   have f5:d.co++List.replicate (j+1) 0=(d.co++List.replicate j 0)++ [0]:=by rw[List.replicate_succ',List.append_assoc]
   have eb:j=pd→qz d.co (xR d.sp m)=d.co++List.replicate j 0:=fun e=>by rw[f0,e]
   generalize hQ:d.co++List.replicate j 0=cj at*;have c5:=b0.aF;have e5:=b0.tC;obtain⟨_,_,_,_,_,b2,_⟩:=b0.ne;simp only[dG]at c5;have f6:=Mc a5 hj ee he;have f8:=ru hW;rw[et,List.length_cons]at f8;have hw:=GA (c:=0) f6 f8;have fi:IntKind.i64.wrap ((cj.length:Int)+1)=(cj.length:Int)+1:=aI (by clear a5 hj;omega) (by clear a5 hj;omega);have f7:=Mq w0;have w:¬k.aF=k.tC:=b2;by_cases c4:w0.toNat%4=3
   ·rw[if_pos c4]at a5;have c8:=f7.trans (eq_true c4);obtain⟨gt,fd⟩:=J1 a5 hj ee;by_cases c6:j<pd
    ·have e0:=gt c6;clear bs d9 a8 hC hW b1 cd;refine gO aa (j5 @c5 @e5 @c8 w @e0) tI ?_;refine aH.mk ((j+1,(X.set k.tC (.tok (cj.length+1))).set k.aF (.cells 88 (wF k en { d with sp:=sp,co:=cj++ [0] })))) (by(try dsimp only);omega) (gF tI) (by(try dsimp only);exact le_eq (by simp[dG])) ?_;try dsimp only
     refine⟨c6,?_⟩;have:=b0.pS (cj++ [0]);rw[AS.set_comm w,List.length_append]at this;rw[f5];exact this
    ·have e0:=(fd c6).1;clear bs d9 a8 hC hW b1 cd;refine gO aa (j5 @c5 @e5 @c8 w @e0) tI ?_;have hz:=b0.pS (cj++w0::W0);rw[AS.set_comm w,List.length_append]at hz;have ch:=eb (fd c6).2;refine⟨zI ((cj.length:Int)+1),(X.set k.tC (.tok (cj.length+(W0.length+1)))).set k.aF (.cells 88 (wF k en { d with sp:=sp,co:=cj++w0::W0 })),du (by rw[fi]),le_eq (by simp[dG]),?_,?_⟩
     ·rw[ch]
     ·rw[ch,dl,c9];exact hz
   ·rw[if_neg c4]at a5;have c8:=f7.trans (eq_false c4);clear bs d9 a8 hC hW b1 cd;refine gO aa (j4 @c5 @e5 @c8 w) tI ?_;have hz:=b0.pS (cj++w0::W0);rw[AS.set_comm w,List.length_append]at hz;have ch:=eb (by rw[a5]at hj⊢;exact Nat.le_zero.1 hj);refine⟨zI ((cj.length:Int)+1),(X.set k.tC (.tok (cj.length+(W0.length+1)))).set k.aF (.cells 88 (wF k en { d with sp:=sp,co:=cj++w0::W0 })),du (by rw[fi]),le_eq (by simp[dG]),?_,?_⟩
    ·rw[ch]
    ·rw[ch,dl,c9];exact hz
open Tryz
abbrev jt:dW:=(.S 0 (.S 1 (.S 2 (.S 3 (.S 6 (.S 7 (.R 4 (.A 5 (.R 8 (.A 9 (.S 10 (.S 11 (.A 12 (.W 13 (.A 14 .D .Z) .Z) .Z))) .Z)) (.A 8 (.A 5 (.A 9 (.S 10 (.S 11 (.A 12 (.W 13 (.A 14 .D .Z) .Z) .Z))) .Z) .Z) .Z)))))))))
theorem cV (S:List Nat):cu prog [(11,jt)] S:=mixed
open Sg (aE bL bI fW fX iJ cD I1 kP oU)
open Pl (sV)
variable {k:SK} {g:bZ} {d:SD} {T:SR} {B τ:AS}
def rm (g:bZ):SD:=⟨(cI g).sp,(cI g).lo,rq g g.ms.length,Bq g++(cI g).lo.map (fun t=>bI (cD t)),(cI g).co⟩
def Tp (k:SK) (g:bZ) (B:AS) (r:AV) (l:AS):Prop:=
 r= .cp []∧ ∃n j,SI k g (rm g) n B j∧cH n= [bt g bp,bu g bp bp,bM g bp bp,(bK g).flatten,cw g bp,cY g bp]∧l=j.set k.aF (.cells 74 (uz k g (rm g) (g.entry+1)))
theorem xL.z (h:xM k g B g.ts.length τ):xL k g B 0 τ:=by obtain⟨n,l,j⟩:=h;refine⟨n,by simpa using l,?_⟩;rw[j,List.take_of_length_le (by simp[bt]),List.take_of_length_le (by simp[bK])];simp
theorem SN {P:Program}{n:Nat}{ds:List Deferred}{Q R:AQ}{s:Fr}{σ:AS}{α:Type}{x y:Code}(I:α→Prop) (fr:α→List (Nat×AV)) (st:α→AS) (j:∀s σ,R .normal s σ=aA P n ds y Q s σ) (h1:aA P n ds x (fD (Sg.oI P I fr st) R) s σ)
 (l:∀v,I v→aA P n ds y Q (gD (fr v)) (st v)):aA P n ds x R s σ:=by
 refine h1.mono fun e o σ' h=> ?_;cases e with
 |normal=>obtain⟨v,i1,i2,i3⟩:=h;rw[j];exact(l v i1).weaken i2 i3
 |exit i=>exact h
 |ret=>exact h
 |panic p=>exact h
theorem s6.z (h:xL k g B g.fs.length τ):s6 k g B 0 τ:=by obtain⟨n,l,j⟩:=h;refine⟨n,by simpa[dw,mI,rq,xE]using l,?_⟩;rw[j,List.take_of_length_le (by simp[bu])];simp
theorem Bn.z (h:s6 k g B g.ms.length τ):Bn k g B 0 τ:=by obtain⟨n,l,j⟩:=h;refine⟨n,by simpa[cI,CG]using l,?_⟩;rw[j,List.take_of_length_le (by simp[bM,ef])];simp
theorem Ee.z (h:Bn k g B (cI g).sp.length τ):Ee k g B 0 τ:=by obtain⟨n,l,j⟩:=h;refine⟨n,by simpa[Bq]using l,?_⟩;rw[j,List.take_of_length_le (by simp[cw])];simp
theorem sH {g:bZ}{i:Nat}(h:i<g.ms.length):(bM g bp bp).take (i+1)=(bM g bp bp).take i++ [oh g bp bp i (g.ms[i],(vY (dw mI (g.ms.take i)).1 g.ms[i]).2)]:=by
 have l:i<(g.ms.zip (dw mI g.ms).2).length:=by simp[ef,h]
 have:=ff (oh g bp bp) (g.ms.zip (dw mI g.ms).2) l;unfold bM;rw[this];congr 2;have hm:(dw mI g.ms).2[i]'(by rw[ef];exact h)=(vY (dw mI (g.ms.take i)).1 g.ms[i]).2:=by
  have h1:g.ms=g.ms.take i++g.ms[i]::g.ms.drop (i+1):=by
   conv=>lhs;rw[←List.take_append_drop i g.ms,List.drop_eq_getElem_cons h]
  have j:=uw (g.ms.take i) (g.ms[i]::g.ms.drop (i+1)) mI;rw[←h1]at j;have hl:(dw mI (g.ms.take i)).2.length=i:=by rw[ef];simp;omega
  have n:(dw mI g.ms).2[i]? =some (vY (dw mI (g.ms.take i)).1 g.ms[i]).2:=by rw[j];simp only;rw[List.getElem?_append_right (by omega),hl];simp[dw]
  exact(List.getElem?_eq_some_iff.1 n).2
 rw[List.getElem_zip,hm]
theorem rA {g:bZ}{i:Nat}(h:i<g.ms.length):(dw mI (g.ms.take (i+1))).1=(vY (dw mI (g.ms.take i)).1 g.ms[i]).1:=by rw[List.take_succ_eq_append_getElem h,uw];rfl
theorem SI.S6 (j:tu g) (i:Nat) (n:i<g.ms.length) (h:s6 k g B i τ):ad prog 63 [.ptr k.aF 0,fM g.ms[i]] τ (fun r l=>r= .cp []∧s6 k g B (i+1) l) No:=by
 obtain⟨M,H,A⟩:=h;have E:=j.ts;have G:=j.fs;have F:=j.ms;have q:=na j g.ts.length;rw[List.take_of_length_le (by simp[bK])]at q;have o:(rq g i).length=g.ts.length+g.fs.length+i:=by simp[rq];omega
 have u:(xE g i).length=g.fs.length+i:=by simp[xE];omega
 refine(H.method g.ms[i] (j.m i n) (by have:=j.sp i;simp only;omega) (by have:=j.co i;simp only;omega) (by simp only;omega) (by simp only;omega) (by have:=j.lo i;simp only;omega) (fun x D=>by have:=j.lA i x D;omega) ?_).mono ?_ (fun _ _ h=>h)
 ·rw[A];intro y w;simp only[List.mem_cons,List.not_mem_nil,or_false]at w;rcases w with rfl|rfl|rfl|rfl|rfl|rfl
  ·simp[bt];omega
  ·simp[bu];omega
  ·simp;omega
  ·omega
  ·simp
  ·simp
 ·rintro r l ⟨rfl,L,I,v⟩;refine⟨rfl,L,?_,?_⟩
  ·rw[rA n];have K:rq g (i+1)=rq g i++ [g.ms[i].name]:=by unfold rq;rw[List.take_succ_eq_append_getElem n,List.map_append,←List.append_assoc];rfl
   have J:xE g (i+1)=xE g i++ [bI (Sg.eS (Lz g.ms[i]))]:=by unfold xE;rw[List.take_succ_eq_append_getElem n,List.map_append,←List.append_assoc];rfl
   rw[K,J];exact I
  ·rw[v,A,sH n];simp only[o,u];simp[oh,bp,vY]
theorem qZ (g:bZ):(CG g).length=g.fs.length+g.ms.length:=by simp[CG,xE]
theorem D3 {g:bZ}{i:Nat}(h:i≤(cI g).sp.length):(CG g++((cI g).sp.take i).map (fun t=>bI (iJ t))).length=g.fs.length+g.ms.length+i:=by rw[List.length_append,qZ];simp;omega
theorem A0 {g:bZ}{i:Nat}(h:i<(cI g).sp.length):CG g++((cI g).sp.take (i+1)).map (fun t=>bI (iJ t))=CG g++((cI g).sp.take i).map (fun t=>bI (iJ t))++ [bI (iJ (cI g).sp[i])]:=by rw[List.take_succ_eq_append_getElem h,List.map_append,←List.append_assoc];rfl
theorem D2 {g:bZ}{i:Nat}(h:i≤(cI g).lo.length):(Bq g++((cI g).lo.take i).map (fun t=>bI (cD t))).length=g.fs.length+g.ms.length+(cI g).sp.length+i:=by rw[List.length_append,Bq,List.length_append,qZ];simp;omega
theorem AZ {g:bZ}{i:Nat}(h:i<(cI g).lo.length):Bq g++((cI g).lo.take (i+1)).map (fun t=>bI (cD t))=Bq g++((cI g).lo.take i).map (fun t=>bI (cD t))++ [bI (cD (cI g).lo[i])]:=by rw[List.take_succ_eq_append_getElem h,List.map_append,←List.append_assoc];rfl
theorem uP {n i:Nat}(f:Nat→List Int) (h:i<n):((List.range n).map f).take (i+1)=((List.range n).map f).take i++ [f i]:=by rw[List.take_succ_eq_append_getElem (by simpa using h)];simp
theorem sA {g:bZ}{i:Nat}(h:i<(cI g).sp.length):(cw g bp).take (i+1)=(cw g bp).take i++ [kJ (g.fs.length+g.ms.length) bp i]:=uP _ h
theorem sL {g:bZ}{i:Nat}(h:i<(cI g).lo.length):(cY g bp).take (i+1)=(cY g bp).take i++ [kJ (g.fs.length+g.ms.length+(cI g).sp.length) bp i]:=uP _ h
theorem Bb {g:bZ}(l:tu g) {T:SR}{i j:Nat}(D:cH T= [bt g bp,bu g bp bp,bM g bp bp,(bK g).flatten,(cw g bp).take i,(cY g bp).take j]):∀y∈cH T,y.length≤30000:=by
 rw[D];have v:=l.ts;have A:=l.fs;have w:=l.ms;have n:=na l g.ts.length;rw[List.take_of_length_le (by simp[bK])]at n;have q:(cI g).sp.length≤20000:=by have:=l.sp g.ms.length;rwa [List.take_length]at this
 have u:(cI g).lo.length≤64:=by have:=l.lo g.ms.length;rwa [List.take_length]at this
 intro y o;simp only[List.mem_cons,List.not_mem_nil,or_false]at o;rcases o with rfl|rfl|rfl|rfl|rfl|rfl
 ·simp[bt];omega
 ·simp[bu];omega
 ·simp[bM,ef];omega
 ·omega
 ·simp[cw];omega
 ·simp[cY];omega
theorem MK (t:Ty) (σ:AS):ad prog 62 [cB t] σ (aq (.cp [bL (bI (fX t)),zI (fW (fX t))]) σ) No:=kP t σ
theorem SI.all (K:tu g) (h:xM k g B 0 τ):ad prog 28 [.ptr k.aF 0] τ (Tp k g B) No:=by
 have cs:=K.ts;have c2:=K.fs;have c1:=K.ms;have c4:∀ {σ:AS} {i:Nat},AS.le B σ→σ i=none→B i=none:=fun h1 Y=>iN h1 Y;refine ad.ob func28 ?_;have ax:=h.choose_spec.1.aF;simp only[eh]at ax;refine gO cV (j2 @ax @ae) tI ?_;refine aA.aY (α:=(Nat)×(AS)) ((0,τ)) (fun⟨i,G⟩=>g.ts.length-i) (fun⟨i,G⟩=>i≤g.ts.length∧xM k g B i G) [(0,?_),(17,?_),(18,?_)] (fun⟨i,G⟩=> [(19,zI i)]) (fun⟨i,G⟩=>G) ?_ ?_ ?_ ?_;rotate_left 3
 ·exact gF tI
 ·(try dsimp only);exact lR _
 ·exact⟨by omega,h⟩
 intro x_ o;obtain⟨i,G⟩:=x_;try dsimp only at o⊢
 obtain⟨hi,F⟩:=o;simp only[fm];by_cases l:i<g.ts.length
 ·have n:zW ((i:Int)+1)=((i+1:Nat):Int):=bh (by omega);repeat (first
   |refine g1 ?_
   |((first|refine g2 ?_ |((with_reducible apply dX 11 jt);refine dY mixed ?_));simp-implicitDefEqProofs [l,cK])
   |(refine g3 ?_;try simp-implicitDefEqProofs))
  intro M q;obtain⟨L,I,H⟩:=F;have a6:xM k g (B.set M (.cells 46 (jD g.ts[i]).cells)) i (G.set M (.cells 46 (jD g.ts[i]).cells)):=⟨L,I.own q,H⟩;have X:=I.my q;have hc:=SI.S7 K i l a6;simp only[cK,bq]at hc;refine gO cV @n tI ?_;refine aj.of hc ?_ (fun _ _ h=>h.elim);rintro r D ⟨rfl,T2,V,U⟩;simp-implicitDefEqProofs;refine gO cV @n tI ?_;refine aH.mk ((i+1,D)) (by(try dsimp only);omega) (gF tI) gT ?_;try dsimp only
  exact⟨l,T2,V.drop (AS.ao (lR _) X),U⟩
 obtain rfl:i=g.ts.length:=by omega
 have a5:=xL.z F;have av:=a5.choose_spec.1.aF;simp only[eh]at av;clear F h ax hi l;refine gO cV (j2 @av @ae) tI ?_;refine aA.aY (α:=(Nat)×(AS)) ((0,G)) (fun⟨i,D⟩=>g.fs.length-i) (fun⟨i,D⟩=>i≤g.fs.length∧xL k g B i D) [(0,?_),(33,?_),(34,?_)] (fun⟨i,D⟩=> [(35,zI i)]) (fun⟨i,D⟩=>D) ?_ ?_ ?_ ?_;rotate_left 3
 ·exact gF tI
 ·(try dsimp only);exact lR _
 ·exact⟨by omega,a5⟩
 intro x_ o;obtain⟨i,D⟩:=x_;try dsimp only at o⊢
 obtain⟨hi,F⟩:=o;simp only[fm];by_cases l:i<g.fs.length
 ·have n:zW ((i:Int)+1)=((i+1:Nat):Int):=bh (by omega);obtain⟨L,I,H⟩:=F;have Q:∀y∈cH L,y.length≤1000:=by
   rw[H];have b3:=na K g.ts.length;rw[List.take_of_length_le (by simp[bK])]at b3;intro y hy;simp only[List.mem_cons,List.not_mem_nil,or_false]at hy;rcases hy with rfl|rfl|rfl|rfl|rfl|rfl
   ·simp[bt];omega
   ·simp;omega
   ·simp
   ·omega
   ·simp
   ·simp
  have b4:(bu g bp bp).take (i+1)=(bu g bp bp).take i++ [lx g bp bp i g.fs[i]]:=ff _ _ l;have b1:(g.fs.take (i+1)).map (·.name)=(g.fs.take i).map (·.name)++ [g.fs[i].name]:=by rw[List.take_succ_eq_append_getElem l,List.map_append];rfl
  have b2:(g.fs.take (i+1)).map (fun f=>bI (fX f.ty))=(g.fs.take i).map (fun f=>bI (fX f.ty))++ [bI (fX g.fs[i].ty)]:=by rw[List.take_succ_eq_append_getElem l,List.map_append];rfl
  generalize hf:g.fs[i]=f at*;have b5:(g.ts.map (·.name)++(g.fs.take i).map (·.name)).length=g.ts.length+i:=by simp;omega
  have ca:((g.fs.take i).map (fun f=>bI (fX f.ty))).length=i:=by simp;omega
  have b6:g.ts.map (·.name)++(g.fs.take (i+1)).map (·.name)=(g.ts.map (·.name)++(g.fs.take i).map (·.name))++ [f.name]:=by rw[b1];simp
  generalize g.ts.map (·.name)++(g.fs.take i).map (·.name)=N at*;generalize (g.fs.take i).map (fun f=>bI (fX f.ty))=BL at*;refine gO cV (j4 l @dq @hf @ae) tI ?_;intro id5 P;have cb:=I.my P;have Y:=I.own (b:= .cells 56 (lu f).cells) P;simp only[dq,bq]at Y;have k5:(B.set id5 (.cells 56 (lu f).cells)) id5=some (.cells 56 (lu f).cells):=AS.aD _ _ _;simp only[dq,bq]at k5;have al:AS.le B (B.set id5 (.cells 56 (lu f).cells)):=AS.ao (lR _) cb;simp only[dq,bq]at al;generalize (B.set id5 (.cells 56 [zS f.name,zI f.owner,zI f.ty.kind,zI f.ty.index,zI f.ty.cT,.sc (.bool f.ty.ref),.sc (.bool f.stat)]))=A at*;have q5:=Y.le _ _ k5;generalize (D.set id5 (.cells 56 [zS f.name,zI f.owner,zI f.ty.kind,zI f.ty.index,zI f.ty.cT,.sc (.bool f.ty.ref),.sc (.bool f.stat)]))=S at*;refine gO (S:= [9]) cV @n tI ?_
  (with_reducible apply aA.region);simp-implicitDefEqProofs [q5]
  repeat (with_reducible refine j2 (by first|omega|assumption|decide) ?_)
  try (with_reducible apply aA.seq)
  refine Sg.Fv (α:=Unit) (fun _ =>True) (fun _ => [(0,.ptr k.aF 0),(5,.ptr id5 0),(6,zI (if f.stat=true then 1 else 0)),(33,.ah 56 (g.fs.map lu) .aJ g.fn),(34,zI g.fs.length),(35,zI i)]) (fun _ =>S) ?_ ?_
  ·cases cv:f.stat
   ·refine gO cV tI tI ?_;refine oI.mk (()) (gF tI) gT ?_;try dsimp only
   ·refine gO cV tI tI ?_;refine oI.mk (()) (gF tI) gT ?_;try dsimp only
  rintro _ _;have a9:=fun σ=>MK f.ty σ;simp only[aE]at a9;refine SN (α:=AS) (fun v=>xL k g A (i+1) v) (fun _ => [(0,.ptr k.aF 0),(33,.ah 56 (g.fs.map lu) .aJ g.fn),(34,zI g.fs.length),(35,zI i)]) (fun v=>v) (fun _ _ =>rfl) ?_ ?_
  ·(((with_reducible apply dX 11 jt);refine dY mixed ?_);simp-implicitDefEqProofs [q5])
   repeat' (with_reducible apply j2)
   all_goals
    refine aj.of (Y.name f.name (by simp only;omega)) ?_ (fun _ _ h=>h.elim);rintro r E ⟨rfl,h3⟩;have r5:=h3.le _ _ k5;simp-implicitDefEqProofs [r5,b5]
    repeat' (with_reducible apply j2)
    all_goals
     refine aj.aL (a9 _) ?_;simp-implicitDefEqProofs;refine aj.of (h3.yU (bI (fX f.ty)) _ (by simp only;omega)) ?_ (fun _ _ h=>h.elim);rintro r w ⟨rfl,h4⟩;have r6:=h4.le _ _ k5;simp-implicitDefEqProofs [ca];refine pG.kI ?_ ?_
     ·decide
     simp-implicitDefEqProofs [bF,fR,aR];intro id O;have hr:=h4.iW (t:=1) (vals:= [(if f.stat=true then 1 else 0),((g.ts.length:Int)+i),(i:Int)]) (by omega) O (oZ fun y hy=>Nat.le_trans (Q y hy) (by omega));simp only[List.map_cons,List.map_nil,aG,List.length_cons,List.length_nil,Nat.reduceAdd,Int.cast_ofNat_Int]at hr;refine aj.of hr ?_ (fun _ _ h=>h.elim);rintro r u ⟨rfl,h5⟩;simp-implicitDefEqProofs;refine oI.mk (u) (gF tI) gT ?_;try dsimp only
     refine⟨lT L 1 (id,[(if f.stat=true then 1 else 0),((g.ts.length:Int)+i),(i:Int)]),?_,?_⟩
     ·rw[b6,b2];exact h5
     ·rw[kf,H,b4];simp[lx,bp]
  ·rintro Z ⟨T2,V,U⟩;refine gO cV @n tI ?_;refine aH.mk ((i+1,Z)) (by(try dsimp only);omega) (gF tI) gT ?_;try dsimp only
   exact⟨l,T2,V.drop al,U⟩
 obtain rfl:i=g.fs.length:=by omega
 have a4:=s6.z F;have ar:=a4.choose_spec.1.aF;simp only[eh]at ar;clear F a5 av hi l;refine gO cV (j2 @ar @ae) tI ?_;refine aA.aY (α:=(Nat)×(AS)) ((0,D)) (fun⟨i,E⟩=>g.ms.length-i) (fun⟨i,E⟩=>i≤g.ms.length∧s6 k g B i E) [(0,?_),(61,?_),(62,?_)] (fun⟨i,E⟩=> [(63,zI i)]) (fun⟨i,E⟩=>E) ?_ ?_ ?_ ?_;rotate_left 3
 ·exact gF tI
 ·(try dsimp only);exact lR _
 ·exact⟨by omega,a4⟩
 intro x_ o;obtain⟨i,E⟩:=x_;try dsimp only at o⊢
 obtain⟨hi,F⟩:=o;simp only[fm];by_cases l:i<g.ms.length
 ·have n:zW ((i:Int)+1)=((i+1:Nat):Int):=bh (by omega);repeat (first
   |refine g1 ?_
   |((first|refine g2 ?_ |((with_reducible apply dX 11 jt);refine dY mixed ?_));simp-implicitDefEqProofs [l,aT])
   |(refine g3 ?_;try simp-implicitDefEqProofs))
  intro M q;obtain⟨L,I,H⟩:=F;have a6:s6 k g (B.set M (.cells 53 (fM g.ms[i]).cells)) i (E.set M (.cells 53 (fM g.ms[i]).cells)):=⟨L,I.own q,H⟩;have X:=I.my q;have hc:=SI.S6 K i l a6;simp only[aT,bq]at hc;refine gO cV @n tI ?_;refine aj.of hc ?_ (fun _ _ h=>h.elim);rintro r w ⟨rfl,T2,V,U⟩;simp-implicitDefEqProofs;refine gO cV @n tI ?_;refine aH.mk ((i+1,w)) (by(try dsimp only);omega) (gF tI) gT ?_;try dsimp only
  exact⟨l,T2,V.drop (AS.ao (lR _) X),U⟩
 obtain rfl:i=g.ms.length:=by omega
 have a3:=Bn.z F;have ap:=a3.choose_spec.1.aF;simp only[eh]at ap;clear F a4 ar hi l;have ce:(cI g).sp.length≤20000:=by have:=K.sp g.ms.length;rwa [List.take_length]at this
 have ch:(cI g).lo.length≤64:=by have:=K.lo g.ms.length;rwa [List.take_length]at this
 have bb:∀x∈(cI g).lo,x.length≤1000:=by have:=K.lA g.ms.length;rwa [List.take_length]at this
 have c0:=qZ g;refine gO cV (j2 @ap @ae) tI ?_;refine aA.aY (α:=(Nat)×(AS)) ((0,E)) (fun⟨i,w⟩=>(cI g).sp.length-i) (fun⟨i,w⟩=>i≤(cI g).sp.length∧Bn k g B i w) [(0,?_),(75,?_),(76,?_)] (fun⟨i,w⟩=> [(77,zI i)]) (fun⟨i,w⟩=>w) ?_ ?_ ?_ ?_;rotate_left 3
 ·exact gF tI
 ·(try dsimp only);exact lR _
 ·exact⟨by omega,a3⟩
 intro x_ o;obtain⟨i,w⟩:=x_;try dsimp only at o⊢
 obtain⟨hi,F⟩:=o;simp only[fm];by_cases l:i<(cI g).sp.length
 ·have n:zW ((i:Int)+1)=((i+1:Nat):Int):=bh (by omega);obtain⟨L,I,H⟩:=F;have Q:=Bb (i:=i) (j:=0) K H;have a0:=D3 (g:=g) (i:=i) (by omega);have a1:=A0 (g:=g) l;have ay:=sA (g:=g) l;generalize ht:(cI g).sp[i]=t at*;generalize CG g++((cI g).sp.take i).map (fun t=>bI (iJ t))=BL at*;have ac:=fun σ=>I1 t σ;simp only[aE]at ac;refine gO (S:= [21]) cV (j4 l @aE @ht @ae) tI ?_;intro cd J;have X:=I.my J;have Y:=I.own (b:= .cells 49 (cB t).cells) J;simp only[aE,bq]at Y;refine gO (S:= [21]) cV @n tI ?_
  with_reducible apply aA.dB
  refine bQ.first 7 ?_;simp-implicitDefEqProofs;refine aj.aL (ac _) ?_;simp-implicitDefEqProofs;refine aj.of (Y.yU (bI (iJ t)) _ (by simp only;omega)) ?_ (fun _ _ h=>h.elim);rintro r u ⟨rfl,h4⟩;simp-implicitDefEqProofs [a0];refine bQ.sp rfl (iD.kI ?_ ?_)
  ·decide
  simp-implicitDefEqProofs [bF,fR,aR];intro id O;have hr:=h4.iW (t:=4) (vals:= [(g.fs.length:Int)+g.ms.length+i]) (by omega) O (oZ fun y hy=>Nat.le_trans (Q y hy) (by omega));simp only[List.map_cons,List.map_nil,aG,List.length_cons,List.length_nil,Nat.reduceAdd,Int.cast_ofNat_Int]at hr;refine bQ.rest ?_;simp-implicitDefEqProofs;refine aj.of hr ?_ (fun _ _ h=>h.elim);rintro r Z ⟨rfl,h5⟩;simp-implicitDefEqProofs;refine gO cV @n tI ?_;refine aH.mk ((i+1,Z)) (by(try dsimp only);omega) (gF tI) gT ?_;try dsimp only
  refine⟨l,lT L 4 (id,[(g.fs.length:Int)+g.ms.length+i]),?_,?_⟩
  ·rw[a1];exact h5.drop (AS.ao (lR _) X)
  ·rw[kf,H,ay];simp[kJ,bp]
 obtain rfl:i=(cI g).sp.length:=by omega
 have a2:=Ee.z F;have am:=a2.choose_spec.1.aF;simp only[eh]at am;clear F a3 ap hi l;refine gO cV (j2 @am @ae) tI ?_;refine aA.aY (α:=(Nat)×(AS)) ((0,w)) (fun⟨i,u⟩=>(cI g).lo.length-i) (fun⟨i,u⟩=>i≤(cI g).lo.length∧Ee k g B i u) [(0,?_),(95,?_),(96,?_)] (fun⟨i,u⟩=> [(97,zI i)]) (fun⟨i,u⟩=>u) ?_ ?_ ?_ ?_;rotate_left 3
 ·exact gF tI
 ·(try dsimp only);exact lR _
 ·exact⟨by omega,a2⟩
 intro x_ o;obtain⟨i,u⟩:=x_;try dsimp only at o⊢
 obtain⟨hi,F⟩:=o;simp only[fm];by_cases l:i<(cI g).lo.length
 ·have n:zW ((i:Int)+1)=((i+1:Nat):Int):=bh (by omega);obtain⟨L,Y,H⟩:=F;have Q:=Bb (i:=(cI g).sp.length) (j:=i) K (by rw[List.take_of_length_le (by simp[cw])];exact H);have a0:=D2 (g:=g) (i:=i) (by omega);have a1:=AZ (g:=g) l;have ay:=sL (g:=g) l;have ac:=fun σ=>oU (cI g).lo[i] .aJ (decide ((cI g).lo[i]= [])) (by have:=bb _ (List.getElem_mem l);omega) σ;generalize ht:(cI g).lo[i]=t at*;generalize Bq g++((cI g).lo.take i).map (fun t=>bI (cD t))=BL at*;refine gO (S:= [26]) cV (j4 l @eO @ht @ae) tI ?_
  with_reducible apply aA.dB
  refine bQ.first 7 ?_;simp-implicitDefEqProofs;refine aj.aL (ac _) ?_;simp-implicitDefEqProofs;refine aj.of (Y.yU (bI (cD t)) _ (by simp only;omega)) ?_ (fun _ _ h=>h.elim);rintro r Z ⟨rfl,h4⟩;simp-implicitDefEqProofs [a0];refine bQ.sp rfl (iD.kI ?_ ?_)
  ·decide
  simp-implicitDefEqProofs [bF,fR,aR];intro id O;have hr:=h4.iW (t:=5) (vals:= [(g.fs.length:Int)+g.ms.length+(cI g).sp.length+i]) (by omega) O (oZ fun y hy=>Nat.le_trans (Q y hy) (by omega));simp only[List.map_cons,List.map_nil,aG,List.length_cons,List.length_nil,Nat.reduceAdd,Int.cast_ofNat_Int]at hr;refine bQ.rest ?_;simp-implicitDefEqProofs;refine aj.of hr ?_ (fun _ _ h=>h.elim);rintro r b0 ⟨rfl,h5⟩;simp-implicitDefEqProofs;refine gO cV @n tI ?_;refine aH.mk ((i+1,b0)) (by(try dsimp only);omega) (gF tI) gT ?_;try dsimp only
  refine⟨l,lT L 5 (id,[(g.fs.length:Int)+g.ms.length+(cI g).sp.length+i]),?_,?_⟩
  ·rw[a1];exact h5
  ·rw[kf,H,ay];simp[kJ,bp]
 obtain rfl:i=(cI g).lo.length:=by omega
 obtain⟨L,I,H⟩:=F;rw[List.take_of_length_le (by omega)]at I;rw[List.take_of_length_le (by simp[cY])]at H;have a8:=I.aF;simp only[eh]at a8;have c3:=K.en;have hw:zW (g.entry+1)=g.entry+1:=aI (by omega) (by omega);clear a2 am hi l;refine gO cV (j3 @a8 @hw @ae) tI ?_;refine⟨_,_,Wk.refl _,?_,rfl,L,u,I,H,rfl⟩;exact le_eq (by simp[eh,rm])
end Im
end Go.Proofs.YtknalmoackcpbaaGreat
