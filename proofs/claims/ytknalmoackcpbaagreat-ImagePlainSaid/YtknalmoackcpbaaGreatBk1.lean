/- Chapter 10: the laws' small images are saved and loaded. -/
import Derived.Test.YtknalmoackcpbaaGreatRows
import Derived.JoinedCond
import Derived.Test.YtknalmoackcpbaaGreatLdC
set_option maxRecDepth 100000
set_option maxHeartbeats 3200000
set_option linter.all false
open Go Go.AW Go.Proofs.Tryz List
namespace Go.Proofs.YtknalmoackcpbaaGreat
namespace Im
def sN (S:List Nat):bH prog [(5,(.S 0 (.S 1 (.S 2 (.S 4 (.R 3 (.S 5 (.S 6 (.S 7 (.S 9 (.R 8 (.U 10 (.S 11 (.S 12 (.S 13 (.S 14 (.S 15 (.S 16 (.S 18 (.R 17 (.S 19 (.S 20 (.S 21 (.U 23 (.R 22 (.U 24 (.S 25 (.S 26 .D))))))))))))))))))))))))))))] S:=mixed
open Cd (dz)
def K6 (g:bY):pZ (pZ g)=pZ g:=by simp[pZ,OV,EJ,Function.comp_def]
def GW (g:bY):(cT g).1.length≤65536:=by
 unfold cT uH;split
 ·simp
 split
 ·simp
 split
 ·simp
 split
 ·simp
 split
 ·simp
 ·rename_i h;simp only[not_or]at h;simp only;omega
def YB (g:bY) (σ:AS) (r:AV) (d:AS):Prop:= ∃nl,(nl=true→g.ts= [])∧ah (.bI [mr { pZ g with tn:=nl },Gl (0,0,0)]) σ r d
def rA {g:bY}(n:Gi g=true) (j:sM g) (l:∀m∈g.ms,∀x∈m.code,Cd.dr x) (d:(cT g).2=0) (σ:AS):
 ad prog 16 [.ao 5 ((cT g).1.map u8) .aI false] σ (YB g σ) No:=by
 have h:=Au (cT g).1 .aI false (by simp) (by have:=GW g;omega) σ;rw[Hw n j l d]at h;refine h.mono (fun r u i=> ?_) (fun _ _ h=>h);rcases i with⟨v,nl,h1,q,o⟩|⟨f,h1,_⟩
 ·cases h1;exact⟨nl,fun e=>by have:=q e;simpa[pZ]using this,o⟩
 ·cases h1
def W7:Program.stoodInHeld prog 39=false:=by kernel_rfl
@[simp] def Xq:Program.eqGuardType prog prog.depth 39=false:=by kernel_rfl
def CR (a b c h g d:Int):jm prog 8 39 (.agg [zI a,zI b,zI c]) (.agg [zI h,zI g,zI d])=some (decide (a=h)&&(decide (b=g)&&decide (c=d))):=by simp[jm,pS,underlying39,underlying31,underlying3]
def w0:bY:=⟨[],true,[],true,[],true,-1⟩
def w1:bY:=⟨[⟨[65],0,-1,[],true⟩],false,[],true,[⟨[109],0,1,[],true,⟨1,0,0,false⟩,[],true,0,[⟨46,0,dz⟩],false,[],true⟩],false,0⟩
def RX:Gi w0=true:=by decide+kernel
def RU:Gi w1=true:=by decide+kernel
def RV:(cT w0).2=0:=by decide+kernel
def RR:(cT w1).2=0:=by decide+kernel
def RW:sM w0:=AB (qD.1 RX) (by simp[w0]) (by simp[w0])
def RT:sM w1:=AB (qD.1 RU) (by simp[w1,Cd.dr]) (by simp[w1])
def IF {w:bY}(i:O4 w) (g:sM w) (d:(cT w).2=0) (σ:AS):ad prog 12 [mr w] σ (ah (.bI [.ao 5 ((cT w).1.map u8) .aI false,zI 0]) σ) No:=by
 have h:=Fx w i (fun _ =>g) (fun _ =>A3 w) σ;have e:yj w= .bI [.ao 5 ((cT w).1.map u8) .aI false,zI 0]:=by unfold yj;rw[d];simp
 rwa [e]at h
def Vd:O4 w0:=by constructor<;>simp[w0]
def Vc:O4 w1:=by refine⟨by simp[w1],by simp[w1],by simp[w1],by simp[w1],by simp[w1],fun m hm=> ?_⟩;simp[w1]at hm;subst hm;constructor<;>simp
def GB {P:Program}{e:TypeId}{l d:List AV}{o:cC}{nl:Bool}(hl:l.length=d.length) (h:∀i,i<d.length→(l.getD i .any).cells.length=(d.getD i .any).cells.length∧ ∀j,AV.Wk P ((l.getD i .any).cells.getD j .any) ((d.getD i .any).cells.getD j .any)):AV.Wk P (.ao e l o nl) (.ao e d .aI nl):=by
 refine fun G v y=>(qh e d o nl).2 trivial G v ?_;generalize w:l=L at y;cases y with
 |iP q=>subst w;have:d= []:=length_eq_zero_iff.1 (by simpa using hl.symm);subst this;exact .iP q
 |pL=>subst w;have:d= []:=length_eq_zero_iff.1 (by simpa using hl.symm);subst this;exact .pL
 |ao vs u hm E g q=>
  subst w;rw[hl]at g q⊢;refine .ao vs (fun i n=> ?_) (fun k F=>hm k (by rw[hl];exact F)) (fun i j n H=> ?_) g q
  ·rw[←(h i n).1];exact u i (by rw[hl];exact n)
  ·exact(h i n).2 j _ _ (E i j (by rw[hl];exact n) H)
def Mh (σ:AS):ad prog 17 [] σ (ah (mr w1) σ) No:=by
 refine ad.ob func17 ?_;refine gO aa tI tI ?_;intro id d;refine gO aa tI tI ?_;refine⟨St.mL (GB rfl fun i g=> ?_) ((jv _).2 trivial) (GB rfl fun i g=> ?_) (Wk.refl _),an d (lR _)⟩
 ·obtain rfl:i=0:=by have h1:i<1:=g;omega
  refine⟨rfl,fun j=> ?_⟩
  match j with
  |0=>exact Wk.refl _
  |1=>exact Wk.refl _
  |2=>exact Wk.refl _
  |3=>exact(jv _).2 trivial
  |j+4=>exact Wk.refl _
 ·obtain rfl:i=0:=by have h1:i<1:=g;omega
  refine⟨rfl,fun j=> ?_⟩
  match j with
  |0=>exact Wk.refl _
  |1=>exact Wk.refl _
  |2=>exact Wk.refl _
  |3=>exact(jv _).2 trivial
  |4=>exact Wk.refl _
  |5=>exact Wk.refl _
  |6=>exact Wk.refl _
  |7=>exact Wk.refl _
  |8=>exact(jv _).2 trivial
  |9=>exact Wk.refl _
  |10=>exact(qh _ _ _ _).2 trivial
  |11=>exact(jv _).2 trivial
  |j+12=>exact Wk.refl _
def LV (σ:AS):ad prog 7 [] σ (ah (zB true) σ) No:=by
 have y:=fun σ=>IF Vd RW RV σ;have w:=fun σ=>IF Vc RT RR σ;have P:=fun σ=>rA RX RW (by simp[w0]) RV σ;have O:=fun σ=>rA RU RT (by simp[w1,Cd.dr]) RR σ;have v:=fun σ=>Mh σ;have M:=fun nl σ=>rP { pZ w0 with tn:=nl } w0 (K6 w0) (by constructor<;>simp[pZ,w0]) σ;have K:=fun nl σ=>rP { pZ w1 with tn:=nl } w1 (K6 w1) (by constructor<;>simp[pZ,w1,OV,EJ]) σ;generalize (cT w0).1=b0 at y P;generalize (cT w1).1=b1 at w O;have u:AV.Wk prog (.agg [.ai,.ai,.ai,zI (-1)]) (mr w0):=St.mL ((jv _).2 trivial) ((jv _).2 trivial) ((jv _).2 trivial) (Wk.refl _);have I:∀σ,ad prog 12 [.agg [.ai,.ai,.ai,zI (-1)]] σ (ah (.bI [.ao 5 (b0.map u8) .aI false,zI 0]) σ) No:=fun σ=>ad.wk [mr w0] (y σ) rfl (fun i Q=>by
  obtain rfl:i=0:=by have h1:i<1:=Q;omega
  exact u)
 have L:∀nl σ,ad prog 15 [mr { pZ w0 with tn:=nl },.agg [.ai,.ai,.ai,zI (-1)]] σ (ah (zB true) σ) No:=fun nl σ=>ad.wk [mr { pZ w0 with tn:=nl },mr w0] (M nl σ) rfl (fun i Q=>by
  match i,Q with
  |0,_ =>exact Wk.refl _
  |1,_ =>exact u
  |i+2,Q=>exact absurd Q (by show ¬i+1+1<2;omega))
 clear y M u;refine ad.ob func7 ?_;refine gO sN tI @I ?_;refine ag.of (P _) ?_ (fun _ _ h=>h.elim);rintro r σ1 ⟨nl,ap,rfl,rfl⟩;have hq:=fun σ=>L nl σ;simp only[bj,Gl]at hq v w K⊢;simp-implicitDefEqProofs;intro id3 o;refine gO sN tI tI ?_;intro q d n;have g:=aK d;simp-implicitDefEqProofs [d,g];refine gO sN tI (j2 @v @w) ?_;obtain⟨S,hS,k3,k4,hle⟩:∃S:AS,((σ.set id3 (.cells 26 [.ao 46 ((pZ w0).ts.map nA) .aI nl,.ao 56 ((pZ w0).fs.map pR) .aI (pZ w0).fn,.ao 53 ((pZ w0).ms.map kH) .aI (pZ w0).mn,zI ((pZ w0).entry)])).set q (.cells 39 [zI 0,zI 0,zI 0]))=S∧S id3=some (.cells 26 [.ao 46 ((pZ w0).ts.map nA) .aI nl,.ao 56 ((pZ w0).fs.map pR) .aI (pZ w0).fn,.ao 53 ((pZ w0).ms.map kH) .aI (pZ w0).mn,zI ((pZ w0).entry)])∧S q=some (.cells 39 [zI 0,zI 0,zI 0])∧AS.le σ S:=
  ⟨_,rfl,by rw[AS.ae _ _ g,AS.ak],AS.ak _ _ _,AS.aj (AS.aj (lR _) o) n⟩
 rw[hS];clear hS o n;refine ag.of (O _) ?_ (fun _ _ h=>h.elim);rintro r σ2 ⟨T,al,rfl,rfl⟩;have J:=fun σ=>K T σ;simp only[bj,Gl]at J⊢;simp-implicitDefEqProofs;intro H l;have ab:¬id3=H:=nq k3 l;have X:¬q=H:=nq k4 l;refine gO sN tI tI ?_;intro G E j;have F:=aK E;have Y:¬id3=G:=nq k3 j;have V:¬q=G:=nq k4 j;simp-implicitDefEqProofs [F,E];refine gO sN (j8 @k3 @k4 @ab @X @Y @V @F @CR) (j3 @v @hq @J) ?_;exact AS.le_trans hle (AS.aj (AS.aj (lR _) l) j)
end Im
namespace Rg
structure Wf (c:Cl):Prop where
 k1:1≤c.k
 k4:c.k≤4
 t0:0≤c.tf
 t1:c.tf<c.tt
 h0:0≤c.hf
 h1:c.hf<c.ht
 f1:c.k=2→0≤c.fl∧c.fl<c.hf
 f2:¬c.k=2→c.fl= -1
 d1:fQ ⟨c.tf,c.tt⟩ ⟨c.hf,c.ht⟩=false
 d2:c.k=2→fQ ⟨c.tf,c.tt⟩ ⟨c.fl,c.hf⟩=false
def oC (s t:Sn):fQ s t=fQ t s:=by unfold fQ;rw[Bool.and_comm]
def ld {k:Int}{c:Cl}(h:c.k=2):aT k c= [⟨k,1,⟨c.tf,c.tt⟩⟩,⟨k,2,⟨c.hf,c.ht⟩⟩,⟨k,3,⟨c.fl,c.hf⟩⟩]:=by simp[aT,h]
def la {k:Int}{c:Cl}(h:¬c.k=2):aT k c= [⟨k,1,⟨c.tf,c.tt⟩⟩,⟨k,2,⟨c.hf,c.ht⟩⟩]:=by simp[aT,h]
def bB {s t:Sn}(h1:s.f<s.t) (d:t.f<t.t):iJ s t=fQ s t:=by simp[iJ,fQ,h1,d]
def Cp {t:Sn} :iJ ⟨0,0⟩ t=false:=by simp[iJ]
def sa {s:Sn} :iJ s ⟨0,0⟩=false:=by simp[iJ]
def pr {s t:Sn}(h1:s.f<s.t):jB s t=mv s t:=by obtain⟨a,b⟩:=s;obtain⟨c,d⟩:=t;simp only[jB,mv,Sn.mk.injEq]at h1⊢;rw[Bool.eq_iff_iff];simp;omega
def LU {t:Sn} :jB ⟨0,0⟩ t=true:=by simp[jB]
def Lt (n:Int) (c:Cl):jt n c=bz n c:=by
 unfold jt bz;split
 ·rfl
 split
 ·rfl
 rename_i h1 j;simp[fU]at h1 j;have e:fT (aT 0 c) (aT 0 c) rp=(iJ (dw c 1) (dw c 2)||(iJ (dw c 1) (dw c 3)||iJ (dw c 2) (dw c 3))):=by
  by_cases d:c.k=2
  ·rw[ld d];have i:dw c 1=⟨c.tf,c.tt⟩:=rfl;have h:dw c 2=⟨c.hf,c.ht⟩:=rfl;have g:dw c 3=⟨c.fl,c.hf⟩:=by simp[dw,d]
   rw[i,h,g,bB (by simp;omega) (by simp;omega),bB (by simp;omega) (by simp;omega),bB (by simp;omega) (by simp;omega)];simp[fT,rp,oC ⟨c.hf,c.ht⟩ ⟨c.tf,c.tt⟩,oC ⟨c.fl,c.hf⟩ ⟨c.tf,c.tt⟩,oC ⟨c.fl,c.hf⟩ ⟨c.hf,c.ht⟩];generalize fQ ⟨c.tf,c.tt⟩ ⟨c.hf,c.ht⟩=x;generalize fQ ⟨c.tf,c.tt⟩ ⟨c.fl,c.hf⟩=y;generalize fQ ⟨c.hf,c.ht⟩ ⟨c.fl,c.hf⟩=z;revert x y z;decide
  ·rw[la d];have i:dw c 1=⟨c.tf,c.tt⟩:=rfl;have h:dw c 2=⟨c.hf,c.ht⟩:=rfl;have g:dw c 3=⟨0,0⟩:=by simp[dw,d]
   rw[i,h,g,bB (by simp;omega) (by simp;omega),sa,sa];simp[fT,rp,oC ⟨c.hf,c.ht⟩ ⟨c.tf,c.tt⟩]
 rw[e]
def On {n:Int}{c:Cl}(h:bz n c=0):Wf c∧c.tt≤n∧c.ht≤n:=by
 unfold bz at h;split at h
 ·cases h
 split at h
 ·cases h
 split at h
 ·cases h
 rename_i h1 i d;simp[fU]at h1 i;by_cases g:c.k=2
 ·rw[ld g]at d;simp[fT,rp]at d;exact⟨⟨by omega,by omega,by omega,by omega,by omega,by omega,fun _ =>by omega,fun h=>absurd g h,d.1.1,fun _ =>d.1.2⟩,by omega,by omega⟩
 ·rw[la g]at d;simp[fT,rp]at d;exact⟨⟨by omega,by omega,by omega,by omega,by omega,by omega,fun h=>absurd h g,fun _ =>by omega,d.1,fun h=>absurd h g⟩,by omega,by omega⟩
def Ny {a b:Cl}(ha:Wf a) (E:Wf b):kC a b=dA a b:=by
 have u:dw a 1=⟨a.tf,a.tt⟩:=rfl;have q:dw a 2=⟨a.hf,a.ht⟩:=rfl;have v:dw b 1=⟨b.tf,b.tt⟩:=rfl;have o:dw b 2=⟨b.hf,b.ht⟩:=rfl;have J:=ha.t1;have K:=ha.h1;have F:=E.t1;have G:=E.h1;have I:=ha.f1;have H:=E.f1;have n:∀t:Sn,∀k p:Int,kX (aT 0 a) ⟨k,p,t⟩=(jB (dw a 1) t&&(jB (dw a 2) t&&jB (dw a 3) t)):=by
  intro t k p;by_cases g:a.k=2
  ·have j:dw a 3=⟨a.fl,a.hf⟩:=by simp[dw,g]
   have:=I g;rw[ld g,u,q,j,pr (by simp;omega),pr (by simp;omega),pr (by simp;omega)];simp[kX]
  ·have j:dw a 3=⟨0,0⟩:=by simp[dw,g]
   rw[la g,u,q,j,pr (by simp;omega),pr (by simp;omega),LU];simp[kX]
 have i:∀t:Sn,∀p:Int,((aT 0 a).any (fun y=> !decide (y.p=1)&&decide (y.s.f=t.f)))=(decide (a.hf=t.f)||(decide (a.k=2)&&decide (a.fl=t.f))):=by
  intro t p;by_cases g:a.k=2
  ·rw[ld g];simp[g]
  ·rw[la g];simp[g]
 have l:(if (decide (a.tf=b.tf)&&decide (a.tt=b.tt))=true then !fT (aT 0 a) (aT 1 b) px else !fT (aT 0 a) (aT 1 b) OI)=nR a b:=by
  unfold nR mR;have e:(decide (a.tf=b.tf)&&decide (a.tt=b.tt))=nG a b:=rfl;rw[e];by_cases g:a.k=2<;>by_cases d:b.k=2
  ·have j:dw a 3=⟨a.fl,a.hf⟩:=by simp[dw,g]
   have h:dw b 3=⟨b.fl,b.hf⟩:=by simp[dw,d]
   have:=I g;have:=H d;simp only[all_cons,all_nil,u,q,j,v,o,h];rw[bB (by simp;omega) (by simp;omega),bB (by simp;omega) (by simp;omega),bB (by simp;omega) (by simp;omega),bB (by simp;omega) (by simp;omega),bB (by simp;omega) (by simp;omega),bB (by simp;omega) (by simp;omega),bB (by simp;omega) (by simp;omega),bB (by simp;omega) (by simp;omega),bB (by simp;omega) (by simp;omega)];rw[ld g,ld d];cases nG a b<;>simp[fT,px,OI,Bool.and_assoc]
  ·have j:dw a 3=⟨a.fl,a.hf⟩:=by simp[dw,g]
   have h:dw b 3=⟨0,0⟩:=by simp[dw,d]
   have:=I g;simp only[all_cons,all_nil,u,q,j,v,o,h,sa];rw[bB (by simp;omega) (by simp;omega),bB (by simp;omega) (by simp;omega),bB (by simp;omega) (by simp;omega),bB (by simp;omega) (by simp;omega),bB (by simp;omega) (by simp;omega),bB (by simp;omega) (by simp;omega)];rw[ld g,la d];cases nG a b<;>simp[fT,px,OI,Bool.and_assoc]
  ·have j:dw a 3=⟨0,0⟩:=by simp[dw,g]
   have h:dw b 3=⟨b.fl,b.hf⟩:=by simp[dw,d]
   have:=H d;simp only[all_cons,all_nil,u,q,j,v,o,h,Cp];rw[bB (by simp;omega) (by simp;omega),bB (by simp;omega) (by simp;omega),bB (by simp;omega) (by simp;omega),bB (by simp;omega) (by simp;omega),bB (by simp;omega) (by simp;omega),bB (by simp;omega) (by simp;omega)];rw[la g,ld d];cases nG a b<;>simp[fT,px,OI,Bool.and_assoc]
  ·have j:dw a 3=⟨0,0⟩:=by simp[dw,g]
   have h:dw b 3=⟨0,0⟩:=by simp[dw,d]
   simp only[all_cons,all_nil,u,q,j,v,o,h,Cp,sa];rw[bB (by simp;omega) (by simp;omega),bB (by simp;omega) (by simp;omega),bB (by simp;omega) (by simp;omega),bB (by simp;omega) (by simp;omega)];rw[la g,la d];cases nG a b<;>simp[fT,px,OI,Bool.and_assoc]
 have g1:∀k p:Int,gR a b 1=kX (aT 0 a) ⟨k,p,⟨b.tf,b.tt⟩⟩:=fun k p=>by unfold gR;rw[n,v];simp[F]
 have g2:∀k p:Int,gR a b 2=kX (aT 0 a) ⟨k,p,⟨b.hf,b.ht⟩⟩:=fun k p=>by unfold gR;rw[n,o];simp[G]
 unfold kC dA;rw[l];simp only[g1 1 1,g2 1 2];by_cases d:b.k=2
 ·have h:dw b 3=⟨b.fl,b.hf⟩:=by simp[dw,d]
  have w:=H d;have g3:∀k p:Int,gR a b 3=kX (aT 0 a) ⟨k,p,⟨b.fl,b.hf⟩⟩:=fun k p=>by unfold gR;rw[n,h];simp[w]
  simp only[g3 1 3,ld d,find?];cases kX (aT 0 a) ⟨1,1,⟨b.tf,b.tt⟩⟩ with
  |true=>simp[rR]
  |false=>
   cases kX (aT 0 a) ⟨1,2,⟨b.hf,b.ht⟩⟩ with
   |true=>simp only[rR,o];rw[←i ⟨b.hf,b.ht⟩ 0];simp
   |false=>
    cases kX (aT 0 a) ⟨1,3,⟨b.fl,b.hf⟩⟩ with
    |true=>simp only[rR,h];rw[←i ⟨b.fl,b.hf⟩ 0];simp
    |false=>simp
 ·have h:dw b 3=⟨0,0⟩:=by simp[dw,d]
  have g3:gR a b 3=false:=by unfold gR;rw[h];simp
  simp only[g3,la d,find?];cases kX (aT 0 a) ⟨1,1,⟨b.tf,b.tt⟩⟩ with
  |true=>simp[rR]
  |false=>
   cases kX (aT 0 a) ⟨1,2,⟨b.hf,b.ht⟩⟩ with
   |true=>simp only[rR,o];rw[←i ⟨b.hf,b.ht⟩ 0];simp
   |false=>simp
def NR {g:Cl→Int}{n d:Cl→Cl→Bool}(h:∀a b,g a=0→g b=0→n a b=d a b):∀(l pre:List Cl),(∀a∈pre,g a=0)→rJ g n pre l=rJ g d pre l:=by
 intro l;induction l with
 |nil=>intro pre _;rfl
 |cons c l o=>
  intro pre j;unfold rJ;by_cases h0:g c=0
  ·rw[if_pos h0,if_pos h0,show pre.all (fun a=>n a c)=pre.all (fun a=>d a c) from by rw[Bool.eq_iff_iff,all_eq_true,all_eq_true];exact⟨fun q x i=>by rw[←h x c (j x i) h0];exact q x i,fun q x i=>by rw[h x c (j x i) h0];exact q x i⟩];rw[o (pre++ [c]) (fun a ha=>by
    rcases mem_append.1 ha with ha|ha
    ·exact j a ha
    ·simp at ha;rw[ha];exact h0)]
  ·rw[if_neg h0,if_neg h0]
def xF (n:Int) (l:List Cl):b7 (jt n) kC l=b7 (bz n) dA l:=by
 have:jt n=bz n:=by funext c;exact Lt n c
 rw[this];unfold b7;rw[NR (fun a b ha d=>Ny (On ha).1 (On d).1) l [] (by simp)]
end Rg
namespace Im
open Rg (Cl fY aL vb b7 bz dA jt kC nH xF)
def nP {α:Type}{p:α→Bool}{l:List α}{i:Nat}(h:i<l.length) (h1:∀x∈l.take i,p x=true) (g:p l[i]=true):∀x∈l.take (i+1),p x=true:=by
 intro x d;rw[take_succ_eq_append_getElem h]at d;rcases mem_append.1 d with d|d
 ·exact h1 x d
 ·simp at d;rw[d];exact g
def oM {α:Type}{p:α→Bool}{l:List α}{i:Nat}(h:i<l.length) (d:p l[i]=false):l.all p=false:=by
 cases e:l.all p with
 |false=>rfl
 |true=>rw[all_eq_true]at e;rw[e _ (getElem_mem h)]at d;cases d
def nQ {α:Type}{p:α→Bool}{l:List α}{i:Nat}(h:¬i<l.length) (h1:∀x∈l.take i,p x=true):l.all p=true:=by rw[all_eq_true];rwa [take_of_length_le (by omega)]at h1
def M0 {α:Type}(p:α→Bool) (l:List α):(!l.any p)=l.all fun x=> !p x:=by
 induction l with
 |nil=>rfl
 |cons a r d=>simp[←d]
def Jg (t:TD) (hl:t.bg.length≤140737488355328) (F:t.name.length≤140737488355328) (n:Int) (σ:AS):
 ad prog 21 [nA t,.sc (.int .i64 n)] σ (ah (.sc (.bool (Iq t n))) σ) No:=by
 have hf:=fun σ=>wv t.name F σ;unfold Iq;rw[M0];generalize bD t.name=G at hf⊢;obtain⟨nm,fl,ex,fc,fn⟩:=t;simp only[eI]at hf hl⊢;generalize g:decide (0≤fl∧fl≤31∧ -1≤ex∧ex<n∧fc.length≤4)=j;refine ad.ob func21 ?_;refine gO aa tI tI ?_;intro id w;cases G
 ·refine gO aa tI @hf ?_;all_goals (repeat' (with_reducible apply j2))
  all_goals exact gL tI
 ·by_cases h1:fl<0
  ·have hd:j=false:=by rw[←g];simp;omega
   subst hd;refine gO aa @h1 @hf ?_;all_goals (repeat' (with_reducible apply j2))
   all_goals exact gL tI
  ·by_cases q:31<fl
   ·have hd:j=false:=by rw[←g];simp;omega
    subst hd;refine gO aa (j2 @h1 @q) @hf ?_;all_goals (repeat' (with_reducible apply j2))
    all_goals exact gL tI
   ·by_cases u:ex< -1
    ·have hd:j=false:=by rw[←g];simp;omega
     subst hd;refine gO aa (j3 @h1 @q @u) @hf ?_;all_goals (repeat' (with_reducible apply j2))
     all_goals exact gL tI
    ·by_cases v:n≤ex
     ·have hd:j=false:=by rw[←g];simp;omega
      subst hd;refine gO aa (j4 @h1 @q @u @v) @hf ?_;all_goals (repeat' (with_reducible apply j2))
      all_goals exact gL tI
     ·by_cases I:fc.length≤4
      ·have h:(4<(fc.length:Int))=False:=by simp;omega
       have hd:j=true:=by rw[←g];simp;omega
       subst hd;refine gO aa (j5 @h1 @q @u @v @h) @hf ?_;refine aq.aQ (α:=(Nat)) (0) (fun i=>fc.length-i) (fun i=>i≤fc.length∧ ∀x∈fc.take i,(!mE x n)=true) [(1,?_),(2,?_)] (fun i=> [(5,.sc (.int .i64 i))]) (fun i=>σ.set id (.cells 46 [.sc (.string ⟨nm.toArray⟩),.sc (.int .i64 fl),.sc (.int .i64 ex),.ao 3 (fc.map iV) .aI fn])) ?_ ?_ ?_ ?_;rotate_left 2
       ·exact gF tI
       ·exact gT
       ·(try dsimp only)<;>first|exact trivial|exact⟨by omega,rfl⟩|omega|(simp;done)|exact⟨by omega,by simp⟩|exact⟨by omega,by simp,rfl⟩
       intro i o;try dsimp only at o⊢
       obtain⟨H,y⟩:=o;simp only[eZ];by_cases d:i<fc.length
       ·have l:IntKind.i64.wrap ((i:Int)+1)=((i+1:Nat):Int):=bQ (by omega);by_cases g1:fc[i]<0
        ·rw[oM (p:=fun x=> !mE x n) d (by simp[mE,g1])];refine gO aa (j4 d @rE @g1 @aH) tI ?_;all_goals (repeat' (with_reducible apply j2))
         all_goals exact gL tI
        ·by_cases g2:n≤fc[i]
         ·rw[oM (p:=fun x=> !mE x n) d (by simp[mE,g2])];refine gO aa (j5 d @rE @g1 @g2 @aH) tI ?_;all_goals (repeat' (with_reducible apply j2))
          all_goals exact gL tI
         ·repeat (first
           |(with_reducible first|apply aq.seq|apply aq.block|refine j2 (by first|omega|assumption|decide) ?_)
           |((first|(with_reducible first|apply aq.fork|apply aq.region|show cJ _ _ _ |show bx _ _ _ _ _ _ _ _ _));simp-implicitDefEqProofs [d,rE,g1,g2,l])
           |((with_reducible first|apply aq.ret|apply aq.skip|apply aq.exit);try simp-implicitDefEqProofs))
          refine gB (i+1) gT ?_;try dsimp only
          exact⟨d,fun x E=>by simpa using nP (p:=fun x=> !mE x n) d y (by simp[mE,g1,g2]) x E⟩
       ·rw[nQ (p:=fun x=> !mE x n) d y];refine gO aa (j2 d @aH) tI ?_;all_goals (repeat' (with_reducible apply j2))
        all_goals exact gL tI
      ·have h:(4<(fc.length:Int))=True:=by simp;omega
       have hd:j=false:=by rw[←g];simp;omega
       subst hd;refine gO aa (j5 @h1 @q @u @v @h) @hf ?_;all_goals (repeat' (with_reducible apply j2))
       all_goals exact gL tI
def uy (x:cE) (nt nf nm n:Int):Bool:=
 decide (jF x=0)&&(if (gH x.op).2.1=5 then decide (x.arg<n)else if (gH x.op).2.1=6 then decide (x.arg<nm)else if (gH x.op).2.1=7 then decide (x.arg<nf)else if (gH x.op).2.1=8 then eo x.t nt else true)
def Nk (x:cE) (nt nf nm n:Int):cS x nt nf nm n=uy x nt nf nm n:=by
 unfold cS uy;by_cases h0:jF x=0
 ·have u:¬(x.op<1∨75<x.op):=by intro h;simp[jF,h]at h0
  have hf:gP x (gH x.op).2.1=true:=by
   cases e:gP x (gH x.op).2.1 with
   |true=>rfl
   |false=>rw[show jF x=if x.op<1∨75<x.op then 3 else if gP x (gH x.op).2.1 then 0 else 17 from rfl,if_neg u,e]at h0;simp at h0
  have j:=wP ⟨(x.op-1).toNat,by omega⟩;have e:(((x.op-1).toNat:Nat):Int)+1=x.op:=by omega
  simp only[e]at j;generalize (gH x.op).2.1=o at j hf⊢;congr 1;by_cases i:o=5
  ·simp[i]
  by_cases g:o=6
  ·simp[g]
  by_cases d:o=7
  ·simp[d]
  by_cases q:o=8
  ·simp[q]
  rw[if_neg i,if_neg g,if_neg d,if_neg i,if_neg g,if_neg d,if_neg q];have l:qS x.t=true:=by
   have:o=0∨o=1∨o=2∨o=3∨o=4:=by omega
   rcases this with rfl|rfl|rfl|rfl|rfl<;>simp[gP]at hf<;>first|exact hf.1|exact hf
  have v:x.t.kind=0:=by simp[qS]at l;exact l.1
  simp[eo,v]
 ·simp[h0]
def wB (m:Mt) (nt nf nm:Int):Bool:=
 decide (m.code.length≤160)&&(m.code.all (fun x=>uy x nt nf nm m.code.length)&&(m.cls.all (fun c=>uh c nt)&&decide ((b7 (jt m.code.length) kC m.cls).2=0)))
def U9 (x:cE):Prop:= -9223372036854775808≤x.arg∧x.arg<9223372036854775808
def Jr (m:Mt) (g:bY) (hL:Ry m) (hI:∀x∈m.code,U9 x) (σ:AS):
 ad prog 57 [kH m,mr g] σ (ah (.sc (.bool (wB m g.ts.length g.fs.length g.ms.length))) σ) No:=by
 have hF:=fun(x:cE) (h:U9 x) σ=>JB x h.1 h.2 σ;have hO:=fun(op:Int) σ=>Jx op σ;have hW:=fun(t:Ty) σ=>FC t g.ts.length σ;have hM:=fun(t:Ty) σ=>vn t 1 g.ts.length σ;have hR:=fun σ=>nH m.code.length m.cls .aI m.xn hL.cls σ;have ce:=hL.code;have cd:=hL.cls;unfold wB;generalize decide ((b7 (jt m.code.length) kC m.cls).2=0)=rb at hR⊢;generalize hp:(fun x=>uy x g.ts.length g.fs.length g.ms.length m.code.length)=p;generalize hq:(fun c=>uh c g.ts.length)=q;simp only[bw,bj,fI,cF,gu,vb]at hF hO hW hM hR⊢
 --CODE
 generalize a0:decide (m.code.length≤160)=d16;generalize hA:m.code.all p=A;generalize hB:m.cls.all q=B;refine ad.ob func57 ?_;refine gO aa tI tI ?_;intro id bc;refine gO aa tI tI ?_;intro ar u a6;by_cases ci:m.code.length≤160
 ·have X:(160<(m.code.length:Int))=False:=by simp;omega
  have hd:d16=true:=by rw[←a0];simp;omega
  subst hd;refine gO aa (j2 u @X) tI ?_;refine aq.aQ (α:=(Nat)) (0) (fun i=>m.code.length-i) (fun i=>i≤m.code.length∧ ∀x∈m.code.take i,p x=true) [(2,?_),(3,?_)] (fun i=> [(5,zI i)]) (fun i=>(σ.set id (.cells 53 (kH m).cells)).set ar (.cells 26 (mr g).cells)) ?_ ?_ ?_ ?_;rotate_left 2
  ·exact gF tI
  ·exact gT
  ·(try dsimp only)<;>first|exact trivial|exact⟨by omega,rfl⟩|omega|(simp;done)|exact⟨by omega,by simp⟩|exact⟨by omega,by simp,rfl⟩
  intro i Q;try dsimp only at Q⊢
  obtain⟨hi,hX⟩:=Q;simp only[eZ];by_cases J:i<m.code.length
  ·have F:zW ((i:Int)+1)=((i+1:Nat):Int):=bQ (by omega);have a2:=hF m.code[i] (hI _ (getElem_mem J));generalize hc:m.code[i]=x at*;have G:p x=uy x g.ts.length g.fs.length g.ms.length m.code.length:=by rw[←hp]
   have H:p x=false→A=false:=fun h=>by rw[←hA];exact oM J (by rw[hc];exact h)
   have w:p x=true→ ∀y∈m.code.take (i+1),p y=true:=fun h=>nP J hX (by rw[hc];exact h);have T:=hO x.op;have Y:=hW x.t;unfold uy at G;generalize gH x.op=tt at T G;generalize yp x.op=oe at T;generalize eo x.t g.ts.length=ow at Y G;obtain⟨t1,t2,t3⟩:=tt;simp only at G T;refine gO aa (j7 J @hc @fI u @aH @bw @bj) tI ?_;intro id3 d o E;have L:=aK d;have P:=aK o;by_cases h0:jF x=0
   ·refine gO aa @h0 (j2 @a2 @T) ?_;intro ca l n v K;by_cases h5:t2=5
    ·by_cases g5:(m.code.length:Int)≤x.arg
     ·rw[H (by rw[G];simp[h0,h5,g5])];refine gO aa (j7 u o v l @h5 @g5 @F) tI ?_;all_goals exact gJ tI
     ·have cl:=Int.not_le.1 g5;refine gO aa (j7 u o v l @h5 @g5 @F) tI ?_;refine gB (i+1) (by(try dsimp only);exact an (by simp[v,n,l,K]) (an (by simp[o,d,E]) (lR _))) ?_;try dsimp only
      exact⟨J,w (by rw[G];simp[h0,h5];omega)⟩
    ·skip
     by_cases h6:t2=6
     ·by_cases g6:(g.ms.length:Int)≤x.arg
      ·rw[H (by rw[G];simp[h0,h6,g6])];refine gO aa (j6 d n l @h6 @g6 @F) tI ?_;all_goals exact gJ tI
      ·have ck:=Int.not_le.1 g6;refine gO aa (j6 d n l @h6 @g6 @F) tI ?_;refine gB (i+1) (by(try dsimp only);exact an (by simp[v,n,l,K]) (an (by simp[o,d,E]) (lR _))) ?_;try dsimp only
       exact⟨J,w (by rw[G];simp[h0,h6];omega)⟩
     ·skip
      by_cases h7:t2=7
      ·by_cases g7:(g.fs.length:Int)≤x.arg
       ·rw[H (by rw[G];simp[h0,h7,g7])];refine gO aa (j6 d n l @h7 @g7 @F) tI ?_;all_goals exact gJ tI
       ·have cj:=Int.not_le.1 g7;refine gO aa (j6 d n l @h7 @g7 @F) tI ?_;refine gB (i+1) (by(try dsimp only);exact an (by simp[v,n,l,K]) (an (by simp[o,d,E]) (lR _))) ?_;try dsimp only
        exact⟨J,w (by rw[G];simp[h0,h7];omega)⟩
      ·skip
       by_cases h8:t2=8
       ·cases ow
        ·rw[H (by rw[G];simp[h0,h8])];refine gO aa (j8 d n l @h5 @h6 @h7 @h8 @F) @Y ?_;all_goals exact gJ tI
        ·refine gO aa (j8 d n l @h5 @h6 @h7 @h8 @F) @Y ?_;refine gB (i+1) (by(try dsimp only);exact an (by simp[v,n,l,K]) (an (by simp[o,d,E]) (lR _))) ?_;try dsimp only
         exact⟨J,w (by rw[G];simp[h0,h8])⟩
       ·refine gO aa (j8 d n l @h5 @h6 @h7 @h8 @F) @Y ?_;refine gB (i+1) (by(try dsimp only);exact an (by simp[v,n,l,K]) (an (by simp[o,d,E]) (lR _))) ?_;try dsimp only
        exact⟨J,w (by rw[G];simp[h0,h5,h6,h7,h8])⟩
   ·rw[H (by rw[G];simp[h0])];refine gO aa @h0 (j2 @a2 @T) ?_;all_goals exact gJ tI
  ·have bb:A=true:=by rw[←hA];exact nQ J hX
   rw[bb];refine gO aa (j5 J u @aH @bw @bj) tI ?_;refine aq.aQ (α:=(Nat)) (0) (fun j=>m.cls.length-j) (fun j=>j≤m.cls.length∧ ∀x∈m.cls.take j,q x=true) [(2,?_),(3,?_)] (fun j=> [(9,zI j)]) (fun j=>(σ.set id (.cells 53 (kH m).cells)).set ar (.cells 26 (mr g).cells)) ?_ ?_ ?_ ?_;rotate_left 2
   ·exact gF tI
   ·exact gT
   ·(try dsimp only)<;>first|exact trivial|exact⟨by omega,rfl⟩|omega|(simp;done)|exact⟨by omega,by simp⟩|exact⟨by omega,by simp,rfl⟩
   intro j Q;try dsimp only at Q⊢
   obtain⟨hj,hY⟩:=Q;simp only[eZ];by_cases I:j<m.cls.length
   ·have O:zW ((j:Int)+1)=((j+1:Nat):Int):=bQ (by omega);generalize hc:m.cls[j]=c at*;have M:q c=uh c g.ts.length:=by rw[←hq]
    have H:q c=false→B=false:=fun h=>by rw[←hB];exact oM I (by rw[hc];exact h)
    have w:q c=true→ ∀y∈m.cls.take (j+1),q y=true:=fun h=>nP I hY (by rw[hc];exact h);have V:=hM ⟨c.a,c.b,c.c,c.r⟩;have a1:uh c g.ts.length=if c.k=1 then(gV ⟨c.a,c.b,c.c,c.r⟩ 1&&eo ⟨c.a,c.b,c.c,c.r⟩ g.ts.length)else qS ⟨c.a,c.b,c.c,c.r⟩:=rfl;rw[a1]at M;clear a1;generalize (gV ⟨c.a,c.b,c.c,c.r⟩ 1&&eo ⟨c.a,c.b,c.c,c.r⟩ g.ts.length)=wb at V M;have hn:jm prog 8 49 (.agg [zI c.a,zI c.b,zI c.c,.sc (.bool c.r)]) (.agg [zI 0,zI 0,zI 0,zB false])=some (qS ⟨c.a,c.b,c.c,c.r⟩):=by simp[qS]
    generalize qS ⟨c.a,c.b,c.c,c.r⟩=nb at hn M;refine gO aa (j7 @I @hc @aL u @aH @bw @bj) tI ?_;intro id3 d o E;have L:=aK d;have P:=aK o;by_cases hk:c.k=1
    ·cases wb
     ·rw[H (by rw[M];simp[hk])];refine gO aa (j4 d @hn @hk @O) @V ?_;all_goals exact gJ tI
     ·refine gO aa (j4 d @hn @hk @O) @V ?_;refine gB (j+1) (by(try dsimp only);exact an (by simp[o,d,E]) (lR _)) ?_;try dsimp only
      exact⟨I,w (by rw[M];simp[hk])⟩
    ·cases nb
     ·rw[H (by rw[M];simp[hk])];refine gO aa (j4 d @hn @hk @O) @V ?_;all_goals exact gJ tI
     ·refine gO aa (j4 d @hn @hk @O) @V ?_;refine gB (j+1) (by(try dsimp only);exact an (by simp[o,d,E]) (lR _)) ?_;try dsimp only
      exact⟨I,w (by rw[M];simp[hk])⟩
   ·have a9:B=true:=by rw[←hB];exact nQ I hY
    rw[a9];refine gO aa (j5 @I u @aH @bw @bj) @hR ?_;all_goals exact gJ tI
 ·have X:(160<(m.code.length:Int))=True:=by simp;omega
  have hd:d16=false:=by rw[←a0];simp;omega
  subst hd;refine gO aa (j2 u @X) tI ?_;all_goals exact gJ tI
abbrev mS:bW:=(.S 0 (.R 1 (.A 2 (.S 3 (.S 4 (.S 5 (.R 6 (.S 7 (.S 8 (.S 9 (.S 10 (.S 12 (.R 11 (.S 13 (.S 14 (.S 15 (.S 16 (.S 17 (.S 18 (.S 19 (.S 21 (.S 23 (.S 24 (.R 20 (.R 22 (.S 25 (.S 26 (.R 27 (.S 28 (.S 29 (.S 30 (.S 31 (.S 32 (.S 34 (.R 33 (.A 35 (.S 36 (.S 37 .D)) .Z))))))))))))))))))))))))))))))))) .Z)))
abbrev mQ:bW:=(.S 0 (.R 1 (.S 2 (.S 3 (.S 4 (.S 6 (.R 5 (.S 7 (.S 8 (.S 9 (.S 10 (.S 11 (.S 12 (.S 13 (.S 15 (.S 17 (.S 18 (.R 14 (.R 16 (.S 19 (.S 20 (.R 21 (.S 22 (.S 23 (.S 24 (.S 25 (.R 26 (.R 27 (.A 28 (.S 29 (.S 30 .D)) .Z)))))))))))))))))))))))))))))
def br (S:List Nat):bH prog [(13,mS),(19,mQ)] S:=mixed
open Rg (Cl fY aL vb b7 bz dA jt kC xF)
open Sg (aC)
def Mv (m:Mt) (nt nf nm:Int):Bool:=
 bD m.name&&(decide (0≤m.flags∧m.flags≤31∧0≤m.max∧m.max≤12∧m.ps.length≤6∧m.ls.length≤12)&&(xQ m.ret nt&&(m.ps.all (fun t=>iQ t nt)&&(m.ls.all (fun t=>iQ t nt)&&wB m nt nf nm))))
def Mu (m:Mt) (nt nf nm:Int):Mv m nt nf nm=Iv m nt nf nm:=by
 unfold Mv Iv wB;rw[xF];have e:(fun x=>cS x nt nf nm m.code.length)=fun x=>uy x nt nf nm m.code.length:=by funext x;exact Nk x nt nf nm m.code.length
 rw[e];generalize bD m.name=a;generalize xQ m.ret nt=b;generalize (m.ps.all fun t=>iQ t nt)=c;generalize (m.ls.all fun t=>iQ t nt)=d;generalize (m.code.all fun x=>uy x nt nf nm m.code.length)=e;generalize (m.cls.all fun c=>uh c nt)=f;generalize decide ((b7 (bz m.code.length) dA m.cls).2=0)=h;rw[Bool.eq_iff_iff];simp only[Bool.and_eq_true,decide_eq_true_eq];constructor
 ·rintro⟨h1,⟨F,E,y,w,v,u⟩,q,o,n,l,j,i,g⟩;exact⟨h1,⟨F,E,y,w,v,u,l⟩,q,o,n,j,i,g⟩
 ·rintro⟨h1,⟨F,E,y,w,v,u,l⟩,q,o,n,j,i,g⟩;exact⟨h1,⟨F,E,y,w,v,u⟩,q,o,n,l,j,i,g⟩
def DW (m:Mt) (g:bY) (hL:Ry m) (hI:∀x∈m.code,U9 x) (σ:AS):
 ad prog 24 [kH m,mr g] σ (ah (.sc (.bool (Mv m g.ts.length g.fs.length g.ms.length))) σ) No:=by
 have G:=fun σ=>wv m.name hL.name σ;have O:=fun σ=>vn m.ret 3 g.ts.length σ;have X:=fun(t:Ty) σ=>vn t 2 g.ts.length σ;have hC:=fun σ=>Jr m g hL hI σ;have a1:=hL.ps;have a2:=hL.ls;have e3:(gV m.ret 3&&eo m.ret g.ts.length)=xQ m.ret g.ts.length:=rfl;rw[e3]at O;have e2:∀t:Ty,(gV t 2&&eo t g.ts.length)=iQ t g.ts.length:=fun t=>rfl;simp only[e2]at X;unfold Mv;generalize bD m.name=fb at G⊢;generalize xQ m.ret g.ts.length=ab at O⊢;generalize wB m g.ts.length g.fs.length g.ms.length=cb at hC⊢;have F:∀t,iQ t g.ts.length=(fun t=>iQ t g.ts.length) t:=fun _ =>rfl;generalize hp:(fun t=>iQ t g.ts.length)=p at F⊢;simp only[F]at X;generalize Y:m.ps.all p=PA;generalize ac:m.ls.all p=LA;generalize v:decide (0≤m.flags∧m.flags≤31∧0≤m.max∧m.max≤12∧m.ps.length≤6∧m.ls.length≤12)=d0;simp only[bw,bj,cF]at G O X hC⊢;refine ad.ob func24 ?_;refine gO aa tI tI ?_;intro id ar;refine gO aa tI tI ?_;intro Q d am;cases fb
 ·skip
  refine gO aa d @G ?_;all_goals exact gJ tI
 ·skip
  by_cases h1:m.flags<0
  ·skip
   have hd:d0=false:=by rw[←v];simp;omega
   subst hd;refine gO aa (j2 d @h1) @G ?_;all_goals exact gJ tI
  ·skip
   by_cases M:31<m.flags
   ·skip
    have hd:d0=false:=by rw[←v];simp;omega
    subst hd;refine gO aa (j3 d @h1 @M) @G ?_;all_goals exact gJ tI
   ·skip
    by_cases P:m.max<0
    ·skip
     have hd:d0=false:=by rw[←v];simp;omega
     subst hd;refine gO aa (j4 d @h1 @M @P) @G ?_;all_goals exact gJ tI
    ·skip
     by_cases h4:12<m.max
     ·skip
      have hd:d0=false:=by rw[←v];simp;omega
      subst hd;refine gO aa (j5 d @h1 @M @P @h4) @G ?_;all_goals exact gJ tI
     ·skip
      by_cases h5:m.ps.length≤6
      ·have H:(6<(m.ps.length:Int))=False:=by simp;omega
       by_cases h6:m.ls.length≤12
       ·have I:(12<(m.ls.length:Int))=False:=by simp;omega
        cases ab
        ·skip
         refine gO aa (j7 d @h1 @M @P @h4 @H @I) (j2 @G @O) ?_;all_goals exact gJ tI
        ·skip
         have hd:d0=true:=by rw[←v];simp;omega
         subst hd;refine gO aa (j7 d @h1 @M @P @h4 @H @I) (j2 @G @O) ?_;refine aq.aQ (α:=(Nat)) (0) (fun i=>m.ps.length-i) (fun i=>i≤m.ps.length∧ ∀x∈m.ps.take i,p x=true) [(2,?_),(3,?_),(5,?_)] (fun i=> [(6,zI i)]) (fun i=>(σ.set id (.cells 53 (kH m).cells)).set Q (.cells 26 (mr g).cells)) ?_ ?_ ?_ ?_;rotate_left 3
         ·exact gF tI
         ·exact gT
         ·(try dsimp only)<;>first|exact trivial|exact⟨by omega,rfl⟩|omega|(simp;done)|exact⟨by omega,by simp⟩|exact⟨by omega,by simp,rfl⟩
         intro i w;try dsimp only at w⊢
         obtain⟨a4,V⟩:=w;simp only[eZ];by_cases n:i<m.ps.length
         ·have K:zW ((i:Int)+1)=((i+1:Nat):Int):=bQ (by omega);have q:=X m.ps[i];have E:p m.ps[i]=false→PA=false:=fun h=>by rw[←Y];exact oM n h
          have u:p m.ps[i]=true→ ∀y∈m.ps.take (i+1),p y=true:=fun h=>nP n V h;generalize T:m.ps[i]=t at*;cases o:p t with
          |false=>rw[o]at q;rw[E o];refine gO aa (j8 @n @T @aC d @aH @bw @bj @K) @q ?_;all_goals exact gJ tI
          |true=>
           rw[o]at q;refine gO aa (j8 @n @T @aC d @aH @bw @bj @K) @q ?_;refine gB (i+1) gT ?_;try dsimp only
           exact⟨n,u o⟩
         ·have L:PA=true:=by rw[←Y];exact nQ n V
          rw[L];refine gO aa (j5 @n d @aH @bw @bj) tI ?_;refine aq.aQ (α:=(Nat)) (0) (fun j=>m.ls.length-j) (fun j=>j≤m.ls.length∧ ∀x∈m.ls.take j,p x=true) [(2,?_),(3,?_),(5,?_)] (fun j=> [(7,zI j)]) (fun j=>(σ.set id (.cells 53 (kH m).cells)).set Q (.cells 26 (mr g).cells)) ?_ ?_ ?_ ?_;rotate_left 3
          ·exact gF tI
          ·exact gT
          ·(try dsimp only)<;>first|exact trivial|exact⟨by omega,rfl⟩|omega|(simp;done)|exact⟨by omega,by simp⟩|exact⟨by omega,by simp,rfl⟩
          intro j w;try dsimp only at w⊢
          obtain⟨a3,F⟩:=w;simp only[eZ];by_cases l:j<m.ls.length
          ·have J:zW ((j:Int)+1)=((j+1:Nat):Int):=bQ (by omega);have q:=X m.ls[j];have E:p m.ls[j]=false→LA=false:=fun h=>by rw[←ac];exact oM l h
           have u:p m.ls[j]=true→ ∀y∈m.ls.take (j+1),p y=true:=fun h=>nP l F h;generalize T:m.ls[j]=t at*;cases o:p t with
           |false=>rw[o]at q;rw[E o];refine gO aa (j8 @l @T @aC d @aH @bw @bj @J) @q ?_;all_goals exact gJ tI
           |true=>
            rw[o]at q;refine gO aa (j8 @l @T @aC d @aH @bw @bj @J) @q ?_;refine gB (j+1) gT ?_;try dsimp only
            exact⟨l,u o⟩
          ·have L:LA=true:=by rw[←ac];exact nQ l F
           rw[L];refine gO aa (j5 @l d @aH @bw @bj) @hC ?_;all_goals exact gJ tI
       ·have I:(12<(m.ls.length:Int))=True:=by simp;omega
        have hd:d0=false:=by rw[←v];simp;omega
        subst hd;refine gO aa (j7 d @h1 @M @P @h4 @H @I) (j2 @G @O) ?_;all_goals exact gJ tI
      ·have H:(6<(m.ps.length:Int))=True:=by simp;omega
       have hd:d0=false:=by rw[←v];simp;omega
       subst hd;refine gO aa (j6 d @h1 @M @P @h4 @H) @G ?_;all_goals exact gJ tI
def Fy {α:Type}(F:α→Int) {l:List α}{i j:Nat}{g:i<l.length}{d:j<l.length}(h:i=j):F l[i]=F l[j]:=by subst h;rfl
def DX (g:bY) (hL:O4 g) (hI:∀m∈g.ms,∀x∈m.code,U9 x) (σ:AS):
 ad prog 11 [mr g] σ (ah (.sc (.bool (Gi g))) σ) No:=by
 have hT:=fun(t:TD) (h:t∈g.ts) σ=>Jg t (hL.t t h).1 (hL.t t h).2 g.ts.length σ;have hF:=fun(f:Fd) (h:f∈g.fs) σ=>wv f.name (hL.f f h) σ;have hM:=fun(t:Ty) σ=>vn t 1 g.ts.length σ;have e1:∀t:Ty,(gV t 1&&eo t g.ts.length)=iR t g.ts.length:=fun t=>rfl;simp only[e1]at hM;have hN:=fun(m:Mt) (h:m∈g.ms) σ=>DW m g (hL.m m h) (hI m h) σ;simp only[Mu]at hN;have cj:=hL.ts;have cl:=hL.fs;have ck:=hL.ms;unfold Gi GQ;have a7:∀t,Iq t g.ts.length=(fun t=>Iq t g.ts.length) t:=fun _ =>rfl;generalize hp:(fun t=>Iq t g.ts.length)=p at a7⊢;simp only[a7]at hT;generalize a8:g.ts.all p=TA;generalize be:ni g.ts.length 0 g.fs=FA;generalize bb:pI g.ts.length g.fs.length g.ms.length 0 g.ms=MA;have J:((decide (g.ts.length≤32)&&TA)&&((FA&&decide (g.fs.length≤64))&&((MA&&decide (g.ms.length≤64))&&decide (-1≤g.entry∧g.entry<g.ms.length))))=(decide (g.ts.length≤32∧g.fs.length≤64∧g.ms.length≤64∧ -1≤g.entry∧g.entry<g.ms.length)&&(TA&&(FA&&MA))):=by
  rw[Bool.eq_iff_iff];simp only[Bool.and_eq_true,decide_eq_true_eq];constructor
  ·rintro⟨⟨a,b⟩,⟨c,d⟩,⟨e,f⟩,h⟩;exact⟨⟨a,d,f,h⟩,b,c,e⟩
  ·rintro⟨⟨a,d,f,h⟩,b,c,e⟩;exact⟨⟨a,b⟩,⟨c,d⟩,⟨e,f⟩,h⟩
 rw[J];clear J;generalize J:decide (g.ts.length≤32∧g.fs.length≤64∧g.ms.length≤64∧ -1≤g.entry∧g.entry<g.ms.length)=d0;simp only[bj,bw,eI,cF]at hT hF hM hN⊢;refine ad.ob func11 ?_;refine gO br tI tI ?_;intro id cd;by_cases h1:g.ts.length≤32
 ·have V:(32<(g.ts.length:Int))=False:=by simp;omega
  by_cases h2:g.fs.length≤64
  ·have ac:(64<(g.fs.length:Int))=False:=by simp;omega
   by_cases h3:g.ms.length≤64
   ·have al:(64<(g.ms.length:Int))=False:=by simp;omega
    by_cases h4:g.entry< -1
    ·skip
     have hd:d0=false:=by rw[←J];simp;omega
     subst hd;refine gO br (j4 @V @ac @al @h4) tI ?_;all_goals exact gJ tI
    ·skip
     by_cases h5:(g.ms.length:Int)≤g.entry
     ·skip
      have hd:d0=false:=by rw[←J];simp;omega
      subst hd;refine gO br (j5 @V @ac @al @h4 @h5) tI ?_;all_goals exact gJ tI
     ·skip
      have hd:d0=true:=by rw[←J];simp;omega
      subst hd;simp only[Bool.true_and];refine gO br (j5 @V @ac @al @h4 @h5) tI ?_;refine aq.aQ (α:=(Nat)) (0) (fun i=>g.ts.length-i) (fun i=>i≤g.ts.length∧ ∀x∈g.ts.take i,p x=true) [(1,?_),(3,?_)] (fun i=> [(4,zI i)]) (fun i=>σ.set id (.cells 26 (mr g).cells)) ?_ ?_ ?_ ?_;rotate_left 2
      ·exact gF tI
      ·exact gT
      ·(try dsimp only)<;>first|exact trivial|exact⟨by omega,rfl⟩|omega|(simp;done)|exact⟨by omega,by simp⟩|exact⟨by omega,by simp,rfl⟩
      intro i L;try dsimp only at L⊢
      obtain⟨hi,hX⟩:=L;simp only[eZ];by_cases M:i<g.ts.length
      ·have a1:IntKind.i64.wrap ((i:Int)+1)=((i+1:Nat):Int):=bQ (by omega);have a0:=hT g.ts[i] (getElem_mem M);have n:p g.ts[i]=false→TA=false:=fun h=>by rw[←a8];exact oM M h
       have o:p g.ts[i]=true→ ∀y∈g.ts.take (i+1),p y=true:=fun h=>nP M hX h;generalize hc:g.ts[i]=t at*;cases am:p t with
       |false=>rw[am]at a0;rw[n am];refine gO br (j6 @M @hc @eI @aH @bj @a1) @a0 ?_;all_goals exact gJ tI
       |true=>
        rw[am]at a0;refine gO br (j6 @M @hc @eI @aH @bj @a1) @a0 ?_;refine gB (i+1) gT ?_;try dsimp only
        exact⟨M,o am⟩
      ·have cb:TA=true:=by rw[←a8];exact nQ M hX
       rw[cb];refine gO br (j3 @M @aH @bj) tI ?_;refine aq.aQ (α:=(Nat)×(Int)) ((0,0)) (fun⟨j,last⟩=>g.fs.length-j) (fun⟨j,last⟩=>j≤g.fs.length∧ni g.ts.length 0 g.fs=ni g.ts.length last (g.fs.drop j)∧0≤last∧(j=0→last=0)∧ ∀K (af:K<g.fs.length),j=K+1→(g.fs[K]).owner=last) [(1,?_),(3,?_)] (fun⟨j,last⟩=> [(5,zI j)]) (fun⟨j,last⟩=>σ.set id (.cells 26 (mr g).cells)) ?_ ?_ ?_ ?_;rotate_left 2
       ·exact gF tI
       ·exact gT
       ·exact⟨by omega,by simp,by omega,by simp,by intros;omega⟩
       intro x_ L;obtain⟨j,last⟩:=x_;try dsimp only at L⊢
       obtain⟨hj,hY,a3,hz,Q⟩:=L;simp only[eZ];by_cases ar:j<g.fs.length
       ·have Y:IntKind.i64.wrap ((j:Int)+1)=((j+1:Nat):Int):=bQ (by omega);rw[drop_eq_getElem_cons ar]at hY;simp only[ni]at hY;have u:=hF g.fs[j] (getElem_mem ar);have G:=hM (g.fs[j]).ty;have w:∀K (af:K<g.fs.length),j+1=K+1→(g.fs[K]).owner=(g.fs[j]).owner:=fun K af e=>Fy (fun y:Fd=>y.owner) (by omega);generalize hc:g.fs[j]=f at*;have n:¬(bD f.name=true∧last≤f.owner∧f.owner<g.ts.length∧iR f.ty g.ts.length=true)→FA=false:=fun h=>by rw[←be,hY,if_neg h]
        have o:(bD f.name=true∧last≤f.owner∧f.owner<g.ts.length∧iR f.ty g.ts.length=true)→ni g.ts.length 0 g.fs=ni g.ts.length f.owner (g.fs.drop (j+1)):=fun h=>by rw[hY,if_pos h]
        clear hY;refine gO br (j5 @ar @hc @gy @aH @bj) tI ?_;intro b1 l E;have v:=aK l;by_cases h0:j=0
        ·have b4:=hz h0;have P:¬(0<j):=by omega
         cases hb:bD f.name with
         |false=>rw[hb]at u;rw[n (fun h=>by rw[hb]at h;cases h.1)];refine gO br tI @u ?_;all_goals exact gJ tI
         |true=>
          rw[hb]at u;by_cases H:f.owner<0
          ·rw[n (fun h=>absurd h.2.1 (by omega))];refine gO br @H @u ?_;all_goals exact gJ tI
          ·skip
           by_cases O:(g.ts.length:Int)≤f.owner
           ·rw[n (fun h=>absurd h.2.2.1 (by omega))];refine gO br (j4 @P @H @O @Y) (j2 @u @G) ?_;all_goals exact gJ tI
           ·skip
            cases ht:iR f.ty g.ts.length with
            |false=>rw[ht]at G;rw[n (fun h=>by rw[ht]at h;cases h.2.2.2)];refine gO br (j4 @P @H @O @Y) (j2 @u @G) ?_;all_goals exact gJ tI
            |true=>
             rw[ht]at G;refine gO br (j4 @P @H @O @Y) (j2 @u @G) ?_;refine gB ((j+1,f.owner)) (by(try dsimp only);exact an (by simp[l,E]) (lR _)) ?_;try dsimp only
             exact⟨by omega,o ⟨hb,by omega,by omega,ht⟩,by omega,by omega,w⟩
        ·obtain⟨q,hq⟩:∃q,j=q+1:=⟨j-1,by omega⟩;have I:q<g.fs.length:=by omega
         have T:=Q q I hq;have P:0<j:=by omega
         have z1:IntKind.i64.wrap ((j:Int)-1)=(q:Int):=by rw[By];omega
         cases hb:bD f.name with
         |false=>rw[hb]at u;rw[n (fun h=>by rw[hb]at h;cases h.1)];refine gO br tI @u ?_;all_goals exact gJ tI
         |true=>
          rw[hb]at u;by_cases H:f.owner<0
          ·rw[n (fun h=>absurd h.2.1 (by omega))];refine gO br @H @u ?_;all_goals exact gJ tI
          ·skip
           by_cases O:(g.ts.length:Int)≤f.owner
           ·rw[n (fun h=>absurd h.2.2.1 (by omega))];refine gO br (j2 @H @O) @u ?_;all_goals exact gJ tI
           ·skip
            by_cases c3:f.owner<last
            ·rw[n (fun h=>absurd h.2.1 (by omega))];refine gO br (And.intro (j7 l @gy @P @z1 @I @T @H) (j3 @O @c3 @aH)) (j2 @u @G) ?_;all_goals exact gJ tI
            ·skip
             cases ht:iR f.ty g.ts.length with
             |false=>rw[ht]at G;rw[n (fun h=>by rw[ht]at h;cases h.2.2.2)];refine gO br (And.intro (j7 l @gy @P @z1 @I @T @H) (j3 @O @c3 @aH)) (j2 @u @G) ?_;all_goals exact gJ tI
             |true=>
              rw[ht]at G;repeat (first
               |refine g1 ?_
               |((first|refine g2 ?_ |((with_reducible apply dX 13 mS);refine dY mixed ?_)|((with_reducible apply dX 19 mQ);refine dY mixed ?_)|((with_reducible apply ag.id);first|apply ag.ay (u _)|apply ag.ay (G _)));simp-implicitDefEqProofs [gy,z1,I,T,H,O,P,c3,Y,v])
               |(refine g3 ?_;try simp-implicitDefEqProofs))
              refine gB ((j+1,f.owner)) (by(try dsimp only);exact an (by simp[l,E]) (lR _)) ?_;try dsimp only
              exact⟨by omega,o ⟨hb,by omega,by omega,ht⟩,by omega,by omega,w⟩
       ·have bc:FA=true:=by rw[←be,hY,drop_eq_nil_of_le (by omega)];rfl
        rw[bc];refine gO br (j3 @ar @aH @bj) tI ?_;refine aq.aQ (α:=(Nat)×(Int)) ((0,0)) (fun⟨k,last⟩=>g.ms.length-k) (fun⟨k,last⟩=>k≤g.ms.length∧pI g.ts.length g.fs.length g.ms.length 0 g.ms=pI g.ts.length g.fs.length g.ms.length last (g.ms.drop k)∧0≤last∧(k=0→last=0)∧ ∀K (af:K<g.ms.length),k=K+1→(g.ms[K]).owner=last) [(1,?_),(3,?_)] (fun⟨k,last⟩=> [(7,zI k)]) (fun⟨k,last⟩=>σ.set id (.cells 26 (mr g).cells)) ?_ ?_ ?_ ?_;rotate_left 2
        ·exact gF tI
        ·exact gT
        ·exact⟨by omega,by simp,by omega,by simp,by intros;omega⟩
        intro x_ L;obtain⟨k,last⟩:=x_;try dsimp only at L⊢
        obtain⟨hj,hY,a3,hz,Q⟩:=L;simp only[eZ];by_cases ap:k<g.ms.length
        ·have X:IntKind.i64.wrap ((k:Int)+1)=((k+1:Nat):Int):=bQ (by omega);rw[drop_eq_getElem_cons ap]at hY;simp only[pI]at hY;have F:=hN g.ms[k] (getElem_mem ap);have w:∀K (af:K<g.ms.length),k+1=K+1→(g.ms[K]).owner=(g.ms[k]).owner:=fun K af e=>Fy (fun y:Mt=>y.owner) (by omega);generalize hc:g.ms[k]=m at*;have n:¬(last≤m.owner∧m.owner<g.ts.length∧Iv m g.ts.length g.fs.length g.ms.length=true)→MA=false:=fun h=>by rw[←bb,hY,if_neg h]
         have o:(last≤m.owner∧m.owner<g.ts.length∧Iv m g.ts.length g.fs.length g.ms.length=true)→pI g.ts.length g.fs.length g.ms.length 0 g.ms=pI g.ts.length g.fs.length g.ms.length m.owner (g.ms.drop (k+1)):=fun h=>by rw[hY,if_pos h]
         clear hY;refine gO br (j5 @ap @hc @bw @aH @bj) tI ?_;intro b1 l E;have v:=aK l;by_cases h0:k=0
         ·have b4:=hz h0;have P:¬(0<k):=by omega
          by_cases H:m.owner<0
          ·rw[n (fun h=>absurd h.1 (by omega))];refine gO br @H tI ?_;all_goals exact gJ tI
          ·skip
           by_cases O:(g.ts.length:Int)≤m.owner
           ·rw[n (fun h=>absurd h.2.1 (by omega))];refine gO br (j5 l @P @H @O @X) @F ?_;all_goals exact gJ tI
           ·skip
            cases ht:Iv m g.ts.length g.fs.length g.ms.length with
            |false=>rw[ht]at F;rw[n (fun h=>by rw[ht]at h;cases h.2.2)];refine gO br (j5 l @P @H @O @X) @F ?_;all_goals exact gJ tI
            |true=>
             rw[ht]at F;refine gO br (j5 l @P @H @O @X) @F ?_;refine gB ((k+1,m.owner)) (by(try dsimp only);exact an (by simp[l,E]) (lR _)) ?_;try dsimp only
             exact⟨by omega,o ⟨by omega,by omega,ht⟩,by omega,by omega,w⟩
         ·obtain⟨q,hq⟩:∃q,k=q+1:=⟨k-1,by omega⟩;have I:q<g.ms.length:=by omega
          have T:=Q q I hq;have P:0<k:=by omega
          have z1:IntKind.i64.wrap ((k:Int)-1)=(q:Int):=by rw[By];omega
          by_cases H:m.owner<0
          ·rw[n (fun h=>absurd h.1 (by omega))];refine gO br @H tI ?_;all_goals exact gJ tI
          ·skip
           by_cases O:(g.ts.length:Int)≤m.owner
           ·rw[n (fun h=>absurd h.2.1 (by omega))];refine gO br (j2 @H @O) tI ?_;all_goals exact gJ tI
           ·skip
            by_cases c3:m.owner<last
            ·rw[n (fun h=>absurd h.1 (by omega))];refine gO br (And.intro (j7 l @bw @P @z1 @I @T @H) (j3 @O @c3 @aH)) @F ?_;all_goals exact gJ tI
            ·skip
             cases ht:Iv m g.ts.length g.fs.length g.ms.length with
             |false=>rw[ht]at F;rw[n (fun h=>by rw[ht]at h;cases h.2.2)];refine gO br (And.intro (j7 l @bw @P @z1 @I @T @H) (j3 @O @c3 @aH)) @F ?_;all_goals exact gJ tI
             |true=>
              rw[ht]at F;repeat (first
               |refine g1 ?_
               |((first|refine g2 ?_ |((with_reducible apply dX 13 mS);refine dY mixed ?_)|((with_reducible apply dX 19 mQ);refine dY mixed ?_)|((with_reducible apply ag.id);first|apply ag.ay (F _)));simp-implicitDefEqProofs [bw,z1,I,T,H,O,P,c3,X,v])
               |(refine g3 ?_;try simp-implicitDefEqProofs))
              refine gB ((k+1,m.owner)) (by(try dsimp only);exact an (by simp[l,E]) (lR _)) ?_;try dsimp only
              exact⟨by omega,o ⟨by omega,by omega,ht⟩,by omega,by omega,w⟩
        ·have a9:MA=true:=by rw[←bb,hY,drop_eq_nil_of_le (by omega)];rfl
         rw[a9];refine gO br (j3 @ap @aH @bj) tI ?_;all_goals exact gJ tI
   ·have al:(64<(g.ms.length:Int))=True:=by simp;omega
    have hd:d0=false:=by rw[←J];simp;omega
    subst hd;refine gO br (j3 @V @ac @al) tI ?_;all_goals exact gJ tI
  ·have ac:(64<(g.fs.length:Int))=True:=by simp;omega
   have hd:d0=false:=by rw[←J];simp;omega
   subst hd;refine gO br (j2 @V @ac) tI ?_;all_goals exact gJ tI
 ·have V:(32<(g.ts.length:Int))=True:=by simp;omega
  have hd:d0=false:=by rw[←J];simp;omega
  subst hd;refine gO br @V tI ?_;all_goals exact gJ tI
def xl {l:zY}(h:bD l=true):l.length≤24:=by unfold bD at h;simp only[Bool.and_eq_true,decide_eq_true_eq]at h;exact h.2.1
def Qj {g:bY}(h:zD g):O4 g:=by
 have h1:=h.ts;have u:=h.fs;have q:=h.ms;refine⟨by omega,by omega,by omega,fun t ht=> ?_,fun f hf=> ?_,fun m hm=> ?_⟩
 ·have:=(h.t t ht).UL;have:=xl (h.t t ht).name;omega
 ·have:=xl (h.f f hf).2.2.1;omega
 ·have d:=(h.m m hm).2.2;have o:=xl d.name;have n:=d.ps;have l:=d.ls;have j:=d.code;have i:=(jV d.QH).1;exact⟨by omega,by omega,by omega,by omega,by omega⟩
def SY {g:bY}(h:zD g):Xw g:=by
 have h1:=h.ts;have q:=h.fs;have o:=h.ms;refine⟨by omega,by omega,by omega,fun t ht=> ?_,fun m hm=> ?_⟩
 ·have:=(h.t t ht).UL;omega
 ·have d:=(h.m m hm).2.2;have n:=d.ps;have l:=d.ls;have j:=d.code;have i:=(jV d.QH).1;omega
def Qk {g:bY}(h:zD g) (nl:Bool):zD { g with tn:=nl } :=⟨h.ts,h.fs,h.ms,h.t,h.f,h.fo,h.m,h.mo,h.en⟩
def DS {g:bY}(h:zD g) (d:(cT g).2≠0):(cT g).2=4:=by
 have j:(mA g).all bD=true:=by
  rw[all_eq_true];intro x i;simp only[mA,Ch,mem_append,mem_map]at i;rcases i with(⟨t,ht,rfl⟩|⟨t,ht,rfl⟩)|⟨t,ht,rfl⟩
  ·exact(h.t t ht).name
  ·exact(h.f t ht).2.2.1
  ·exact(h.m t (mem_of_mem_take ht)).2.2.name
 have h1:(Pl.bJ (mA g)).2.2=0∨(Pl.bJ (mA g)).2.2=4:=by
  unfold Pl.bJ;rw[if_neg (by rw[j];simp)];split
  ·exact .inr rfl
  ·exact .inl rfl
 have l:(Pl.bU (dT g)).2.2=0∨(Pl.bU (dT g)).2.2=4:=by
  unfold Pl.bU;split
  ·exact .inr rfl
  ·exact .inl rfl
 unfold cT uH at d⊢;rw[if_neg (by rw[qD.2 h];simp)]at d⊢;split at d
 ·rename_i c;rw[if_pos c];rcases h1 with e|e
  ·exact absurd e c
  ·exact e
 rename_i c;rw[if_neg c];split at d
 ·rename_i c;rw[if_pos c];rcases l with e|e
  ·exact absurd e c
  ·exact e
 rename_i c;rw[if_neg c];split at d
 ·rename_i c;rw[if_pos c]
 rename_i c;rw[if_neg c];split at d
 ·rename_i c;rw[if_pos c]
 ·simp at d
def Qd {b:zY}{o:cC}{nl:Bool}{f:gD}(d:nl=true→b= []) (hl:b.length≤140737488355328) (h:pa b= .error f) (σ:AS):ad prog 16 [.ao 5 (b.map u8) o nl] σ (ah (.bI [mr rC,Gl f]) σ) No:=
 (Au b o nl d hl σ).mono (fun r j i=>by
  rcases i with⟨n,nl,h1,l,g⟩|⟨q,h1,g⟩
  ·rw[h]at h1;cases h1
  ·rw[h]at h1;cases h1;exact g) (fun _ _ h=>h)
def YA (g:bY) (σ:AS) (r:AV) (d:AS):Prop:= ∃nl,ah (.bI [mr { g with tn:=nl },Gl (0,0,0)]) σ r d
def Qc {b:zY}{o:cC}{nl:Bool}{g:bY}(d:nl=true→b= []) (hl:b.length≤140737488355328) (h:pa b= .ok g) (σ:AS):ad prog 16 [.ao 5 (b.map u8) o nl] σ (YA g σ) No:=
 (Au b o nl d hl σ).mono (fun r l j=>by
  rcases j with⟨q,nl,h1,n,i⟩|⟨u,h1,i⟩
  ·rw[h]at h1;cases h1;exact⟨nl,i⟩
  ·rw[h]at h1;cases h1) (fun _ _ h=>h)
def yu (b:zY) (nl:Bool) (hn:nl=true→b= []) (hl:b.length≤140737488355328):
 ad prog 6 [.ao 5 (b.map u8) .aI nl] P4 Bo No:=by
 have hw:=fun σ=>LV σ;by_cases hb:4000<b.length
 ·have w:(4000<(b.length:Int))=True:=by simp;omega
  refine ad.ob func6 ?_;exact gE aa @w @hw
 have w:(4000<(b.length:Int))=False:=by simp;omega
 cases O:pa b with
 |error f=>
  have hf:=Nc b f O;have n:=fun σ=>Qd (o:= .aI) hn hl O σ;have v:=fun σ=>rP rC rC rfl (by constructor<;>simp[rC]) σ;have al:AV.Wk prog (.agg [.ai,.ai,.ai,zI 0]) (mr rC):=St.mL ((jv _).2 trivial) ((jv _).2 trivial) ((jv _).2 trivial) (Wk.refl _);have E:∀σ,ad prog 15 [mr rC,.agg [.ai,.ai,.ai,zI 0]] σ (ah (zB true) σ) No:=fun σ=>ad.wk [mr rC,mr rC] (v σ) rfl (fun i hi=>by
   match i,hi with
   |0,_ =>exact Wk.refl _
   |1,_ =>exact al
   |i+2,hi=>exact absurd hi (by show ¬i+1+1<2;omega))
  obtain⟨f1,f2,f3⟩:=f;simp only at hf;simp only[bj,Gl]at n E;generalize List.map nA rC.ts=L1 at n E;generalize List.map pR rC.fs=L2 at n E;generalize List.map kH rC.ms=L3 at n E;refine ad.ob func6 ?_;refine gO aa @w (j2 @hw @n) ?_;intro id F;refine gO aa tI tI ?_;intro J d q;have j:=aK d;simp-implicitDefEqProofs [d,j];exact gE aa (j3 d @CR @hf) @E
 |ok g=>
  obtain⟨ar,ap,hI⟩:=Cw O;have n:=fun σ=>Qc (o:= .aI) hn hl O σ;refine ad.ob func6 ?_;refine gO aa @w @hw ?_;refine ag.of (n _) ?_ (fun _ _ h=>h.elim);rintro r σ1 ⟨u,rfl,rfl⟩;have G:=Qk ar u;have y:∀m∈({ g with tn:=u } :bY).ms,∀x∈m.code,Cd.dr x:=hI;have M:∀m∈({ g with tn:=u } :bY).ms,(m.cn=true→m.code= [])∧(m.ln=true→m.ls= []):=by
   intro m hm;have af:m∈(pZ g).ms:=by rw[ap];exact hm
   obtain⟨a,_,rfl⟩:=mem_map.1 af;simp[EJ]
  generalize ({ g with tn:=u } :bY)=g1 at G y M⊢;have hO:=AB G y M;have hL:=Qj G;have l:=fun σ=>Fx g1 hL (fun _ =>hO) (fun _ =>A3 g1) σ;have K:=fun σ=>DX g1 hL y σ;rw[qD.2 G]at K;by_cases hs:(cT g1).2=0
  ·have L:=fun σ=>rA (qD.2 G) hO y hs σ;have v:=fun nl σ=>rP g1 { pZ g1 with tn:=nl } (K6 g1).symm (SY G) σ;have e:yj g1= .bI [.ao 5 ((cT g1).1.map u8) .aI false,zI 0]:=by unfold yj;rw[hs];simp
   rw[e]at l;generalize (cT g1).1=c at l L;simp only[bj,Gl]at l K v⊢;simp-implicitDefEqProofs;intro id F;refine gO aa tI tI ?_;intro J d q;have j:=aK d;have j:=aK d;simp-implicitDefEqProofs [d,j];refine gO aa (j2 d @CR) @l ?_;refine ag.of (L _) ?_ (fun _ _ h=>h.elim);rintro r σ2 ⟨P,av,rfl,rfl⟩;have E:=fun σ=>v P σ;simp only[bj,Gl]at E⊢;simp-implicitDefEqProofs;intro a8 V X a2 a7 H Q T a1;have ab:=aK X;have a6:=aK V;have Y:=aK T;have a5:=aK Q;have I:=aK H;simp-implicitDefEqProofs [H,I];exact gE aa (j5 d @ab @Y @I @CR) (j2 @E @K)
  ·have h4:=DS G hs;have e:yj g1= .bI [.ao 5 ((cT g1).1.map u8) .aI true,zI 4]:=by unfold yj;rw[h4];simp
   rw[e]at l;generalize (cT g1).1=c at l;simp only[bj,Gl]at l K⊢;simp-implicitDefEqProofs;intro id F;refine gO aa tI tI ?_;intro J d q;have j:=aK d;have j:=aK d;simp-implicitDefEqProofs [d,j];exact gE aa (j2 d @CR) (j2 @l @K)
end Im
namespace Fm
open Go.ChangeShapes Go.WideShapes Go.ChangeAt
abbrev cX:=Rows.imagePlainRow
abbrev sX:ChangeSpec:=(OpenSpec.ofChange Rows.imagePlainSpec).bare
theorem bi {a b:Bool}(h:a=true) (d:b=true):(a&&b)=true:=by rw[h,d];rfl
theorem Yd:(cX.wf (OpenSpec.ofChange sX))=true:=by kernel_rfl
theorem Yc:(laidOutB Tryz.prog)=true:=by kernel_rfl
theorem Yb:(mapsRowed Tryz.prog)=true:=by kernel_rfl
theorem Ya:(Tryz.f6.params.all (Tryz.prog.readableRec ·))=true:=by kernel_rfl
theorem X9:(namedTie Tryz.prog cX.named sX.vars)=true:=by kernel_rfl
theorem X8:((cX.stops== []))=true:=by kernel_rfl
theorem X7:((Tryz.prog.stops== []))=true:=by kernel_rfl
theorem X6:((cX.knobs== []))=true:=by kernel_rfl
theorem X5:((Tryz.prog.stopKnobs== []))=true:=by kernel_rfl
theorem X4:((cX.inPlace==Tryz.prog.inPlace 6))=true:=by kernel_rfl
theorem VT:((cX.unfollowed==Tryz.prog.unfollowed 6))=true:=by kernel_rfl
theorem VS:((cX.recurses==Tryz.prog.recurses 6))=true:=by kernel_rfl
theorem VR:((cX.named==Tryz.prog.varsNamed 6))=true:=by kernel_rfl
theorem VQ:((cX.maps==(Tryz.f6.params.toList++sX.plain.varTypes Tryz.prog).any (Tryz.prog.mapsRec ·)))=true:=by kernel_rfl
theorem VP:((cX.ifaces==(Tryz.f6.params.toList++sX.plain.varTypes Tryz.prog).any (Tryz.prog.ifacesRec ·)))=true:=by kernel_rfl
theorem VO:((cX.mapsOut==Tryz.prog.mapsAmong Tryz.f6.resultTypes.toList))=true:=by kernel_rfl
theorem VN:((cX.loops==(Tryz.f6.params.toList++sX.plain.varTypes Tryz.prog).any (Tryz.prog.loopsFrom ·)))=true:=by kernel_rfl
theorem VM:((cX.wideKeys==(Tryz.f6.params.toList++sX.plain.varTypes Tryz.prog++Tryz.f6.resultTypes.toList).any (Tryz.prog.wideKeysFrom ·)))=true:=by kernel_rfl
theorem VL:(sX.vars.all (Tryz.prog.varReadable ·))=true:=by kernel_rfl
theorem VK:(Tryz.f6.resultTypes.all (fun t=>Tryz.prog.readableRec t&&decide (t<Tryz.prog.types.size)))=true:=by kernel_rfl
theorem VJ:((cX.ifacesOut==Tryz.f6.resultTypes.toList.any (Tryz.prog.ifacesRec ·)))=true:=by kernel_rfl
theorem VI:((cX.loopsOut==Tryz.f6.resultTypes.toList.any (Tryz.prog.loopsFrom ·)))=true:=by kernel_rfl
theorem VH:((cX.plainKeys==Tryz.prog.plainKeys))=true:=by kernel_rfl
theorem VG:(cX.shortTexts.isNone)=true:=by kernel_rfl
theorem VF:(Tryz.prog.stopsHeard)=true:=by kernel_rfl
theorem VE:(Tryz.prog.mayEnter)=true:=by kernel_rfl
theorem VD:((cX.lifted==Tryz.prog.liftsFinal))=true:=by kernel_rfl
theorem VC:((Tryz.prog.make==some cX.make))=true:=by kernel_rfl
theorem VB:((cX.kinds==(if cX.domain.isEmpty then []else Tryz.f6.params.toList.map fun t=>match Tryz.prog.underlying t with|some (.int k)=>some k| _ =>none)))=true:=by kernel_rfl
theorem VA:((cX.pinned==cX.pinnedBy))=true:=by kernel_rfl
theorem Vz:((cX.veiled==(Tryz.f6.params.toList++sX.plain.varTypes Tryz.prog++Tryz.f6.resultTypes.toList).any (Tryz.prog.veiledRec ·)))=true:=by kernel_rfl
theorem Vy:(cX.veiledFits Tryz.prog Tryz.f6.params.toList (Tryz.f6.params.toList++sX.plain.varTypes Tryz.prog++Tryz.f6.resultTypes.toList))=true:=by kernel_rfl
theorem Qh:joinedFacts Tryz.prog 6 Tryz.f6 sX cX=true:=(bi (bi (bi (bi (bi (bi (bi (bi (bi (bi (bi (bi (bi (bi (bi (bi (bi (bi (bi (bi (bi (bi (bi (bi (bi (bi (bi (bi (bi (bi (bi Yd Yc) Yb) Ya) X9) X8) X7) X6) X5) X4) VT) VS) VR) VQ) VP) VO) VN) VM) VL) VK) VJ) VI) VH) VG) VF) VE) VD) VC) VB) VA) Vz) Vy)
theorem named:Tryz.prog.funcNamed cX.func=some 6:=by kernel_rfl
end Fm
end Go.Proofs.YtknalmoackcpbaaGreat
