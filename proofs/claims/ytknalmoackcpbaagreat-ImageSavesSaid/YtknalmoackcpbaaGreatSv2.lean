/- Chapter 10: things of one kind, each once: the program's index. -/
import Derived.Test.YtknalmoackcpbaaGreatReg4
set_option maxRecDepth 100000
set_option maxHeartbeats 3200000
set_option linter.all false
open Go Go.AW
namespace Go.Proofs.YtknalmoackcpbaaGreat
namespace Im
open Tryz
abbrev mN:dW:=(.S 0 (.S 1 (.S 2 (.S 4 (.S 5 (.S 6 (.R 3 (.R 7 (.S 8 .D)))))))))
abbrev wj:dW:=(.R 1 (.S 2 (.S 3 (.R 4 (.R 5 (.S 6 (.A 0 (.A 7 (.S 8 (.S 9 (.A 10 .D .Z))) .Z) (.A 7 (.R 0 (.S 8 (.S 9 (.A 10 .D .Z)))) .Z))))))))
abbrev lJ:dW:=(.R 1 (.S 2 (.S 3 (.R 4 (.R 5 (.S 6 (.A 0 (.A 7 (.S 8 (.S 9 (.A 10 .D .Z))) .Z) (.A 7 (.R 0 (.S 8 (.S 9 (.A 10 .D .Z)))) .Z))))))))
theorem vW (S:List Nat):cu prog [(6,mN)] S:=mixed
theorem xJ (S:List Nat):cu prog [(1,(.R 0 (.S 1 (.S 2 (.R 3 (.R 4 (.R 5 (.A 6 (.S 7 .D) .Z))))))))] S:=mixed
theorem F4 (S:List Nat):cu prog [(1,(.S 4 (.R 0 (.S 1 (.S 2 (.R 3 (.R 5 (.A 6 (.S 7 .D) .Z))))))))] S:=mixed
theorem mE (S:List Nat):cu prog [(4,lJ)] S:=mixed
theorem mH (S:List Nat):cu prog [(4,lJ)] S:=mixed
open Sg (jL gr il iO dZ aE rz rT)
def jJ {α:Type}[DecidableEq α] (l:List α) (t:α):List α:=if t∈l then l else l++ [t]
def Bo {α:Type}[DecidableEq α] (l:List α) (t:α):Nat:=l.findIdx (fun o=>decide (o=t))
def kU {α:Type}[DecidableEq α] (l:List α) (t:α):Int:=(Bo l t:Int)+1
theorem DG {α:Type}[DecidableEq α] {l:List α}{t:α}(h:t∈l):jL (fun o=>decide (o=t)) l=Bo l t∧jJ l t=l∧Bo l t<l.length:=by
 have n:l.findIdx (fun o=>decide (o=t))<l.length:=List.findIdx_lt_length_of_exists ⟨t,h,by simp⟩;refine⟨?_,by simp[jJ,h],n⟩;rw[gr (i:=l.findIdx (fun o=>decide (o=t))) n (fun x q=> ?_) (List.findIdx_getElem (w:=n))]
 ·rfl
 ·obtain⟨j,u,rfl⟩:=List.mem_take_iff_getElem.1 q;have:=List.not_of_lt_findIdx (show j<l.findIdx (fun o=>decide (o=t)) by omega);simpa using this
theorem DF {α:Type}[DecidableEq α] {l:List α}{t:α}(h:¬t∈l):jL (fun o=>decide (o=t)) l= -1∧jJ l t=l++ [t]∧Bo l t=l.length:=by
 have j:∀x∈l,(fun o=>decide (o=t)) x=false:=fun x n=>by simp;rintro rfl;exact h n
 refine⟨il j,by simp[jJ,h],?_⟩;rw[Bo,List.findIdx_eq_length];exact j
theorem Mw (l m:List Ty) (D A:cA) (n1 n2:Bool) (hl:l.length≤1000000) (hm:m.length≤1000000) (σ:AS):
 ad prog 27 [.ah 49 (l.map cB) D n1,.ah 49 (m.map cB) A n2] σ (aq (.sc (.bool (decide (l=m)))) σ) No:=by
 by_cases hlen:l.length=m.length
 ·have w:((l.length:Int)=m.length)=True:=by simp[hlen]
  refine ad.ob func27 ?_;refine gO vW @w tI ?_;refine aA.aY (α:=(Nat)) (0) (fun i=>l.length-i) (fun i=>i≤l.length∧l.take i=m.take i) [(0,?_),(1,?_),(12,?_)] (fun i=> [(13,zI i)]) (fun i=>σ) ?_ ?_ ?_ ?_;rotate_left 3
  ·exact gF tI
  ·exact gT
  ·(try dsimp only)<;>first|exact trivial|exact⟨by omega,rfl⟩|omega|(simp;done)|exact⟨by omega,by simp⟩|exact⟨by omega,by simp,rfl⟩
  intro i u;try dsimp only at u⊢
  obtain⟨F,v⟩:=u;simp only[fm];by_cases j:i<l.length
  ·have q:zW ((i:Int)+1)=((i+1:Nat):Int):=bh (by omega);have o:i<m.length:=by omega
   have y:=rz l[i] m[i];by_cases he:l[i]=m[i]
   ·repeat (first
     |refine g1 ?_
     |((first|refine g2 ?_ |((with_reducible apply dX 6 mN);refine dY mixed ?_));simp-implicitDefEqProofs [j,o,aE,he,q])
     |(refine g3 ?_;try simp-implicitDefEqProofs))
    refine aH.mk (i+1) (by(try dsimp only);omega) (gF tI) gT ?_;try dsimp only
    exact⟨j,by rw[List.take_succ_eq_append_getElem j,List.take_succ_eq_append_getElem o,v,he]⟩
   ·have n:¬l=m:=fun e=>he (by subst e;rfl);rw[show decide (l[i]=m[i])=false by simp[he]]at y;simp only[n,decide_false];repeat (first
     |refine g1 ?_
     |((first|refine g2 ?_ |((with_reducible apply dX 6 mN);refine dY mixed ?_));simp-implicitDefEqProofs [j,o,aE,↓y])
     |(refine g3 ?_;try simp-implicitDefEqProofs))
  ·have E:l=m:=by rw[List.take_of_length_le (by omega),List.take_of_length_le (by omega)]at v;exact v
   rw[show decide (l=m)=true by simp[E]];exact gE vW (j2 j @ae) tI
 ·have w:((l.length:Int)=m.length)=False:=by simp;omega
  have n:¬l=m:=fun e=>hlen (by rw[e]);rw[show decide (l=m)=false by simp[n]];refine ad.ob func27 ?_;exact gE vW @w tI
def yy (l:List Ty):AV:= .ah 49 (l.map cB) .aJ (decide (l= []))
theorem eO (l:List Ty):yy l= .ah 49 (l.map cB) .aJ (decide (l= [])):=rfl
theorem HP (l:List (List Ty)) (o:cA) (nl:Bool) (w:AV) (g:List Ty→Bool) (σ:AS) (hl:l.length≤140737488355328) (hf:∀x∈l,nJ prog σ w [yy x] (.sc (.bool (g x)))):
 ad prog 192 [.ah 47 (l.map yy) o nl,w] σ (aq (zI (jL g l)) σ) No:=by
 refine ad.ob func192 ?_;refine gO aa tI tI ?_;refine aA.aY (α:=(Nat)) (0) (fun i=>l.length-i) (fun i=>i≤l.length∧ ∀x∈l.take i,g x=false) [(0,?_),(1,?_),(7,?_)] (fun i=> [(8,zI i)]) (fun i=>σ) ?_ ?_ ?_ ?_;rotate_left 3
 ·exact gF tI
 ·exact gT
 ·(try dsimp only)<;>first|exact trivial|exact⟨by omega,rfl⟩|omega|(simp;done)|exact⟨by omega,by simp⟩|exact⟨by omega,by simp,rfl⟩
 intro i q;try dsimp only at q⊢
 obtain⟨y,v⟩:=q;simp only[fm];by_cases j:i<l.length
 ·have n:zW ((i:Int)+1)=((i+1:Nat):Int):=bh (by omega);have hu:=(hf l[i] (List.getElem_mem j));simp only[eO]at hu;cases u:g l[i]with
  |true=>
   rw[u]at hu;rw[gr j v u];repeat (first
    |refine g1 ?_
    |((first|refine g2 ?_ |((with_reducible apply aj.id);first|apply (hu.use)));simp-implicitDefEqProofs [j,eO])
    |(refine g3 ?_;try simp-implicitDefEqProofs))
  |false=>
   rw[u]at hu;repeat (first
    |refine g1 ?_
    |((first|refine g2 ?_ |((with_reducible apply aj.id);first|apply (hu.use)));simp-implicitDefEqProofs [j,eO,n])
    |(refine g3 ?_;try simp-implicitDefEqProofs))
   refine aH.mk (i+1) (by(try dsimp only);omega) (gF tI) gT ?_;try dsimp only
   exact⟨j,dZ j v u⟩
 ·rw[il (by rwa [List.take_of_length_le (by omega)]at v)];exact gE aa (j2 j @ae) tI
theorem GU (t u:Ty) (σ:AS):ad prog 25 [cB t,cB u] σ (aq (.sc (.bool (decide (t=u)))) σ) No:=by
 have q:=rz t u;simp only[aE]at q⊢;generalize decide (t=u)=d at q⊢;refine ad.ob func25 ?_;refine gO aa tI tI ?_;intro id o;intro v l n;have j:=ba l;repeat (first
  |refine g1 ?_
  |((first|refine g2 ?_);simp-implicitDefEqProofs [↓q,j])
  |(refine g3 ?_;try simp-implicitDefEqProofs))
 exact AS.ao (AS.ao (lR _) o) (by simp[n])
theorem GS (l m:List Ty) (hl:l.length≤1000000) (hm:m.length≤1000000) (σ:AS):ad prog 26 [yy l,yy m] σ (aq (.sc (.bool (decide (l=m)))) σ) No:=by have j:=fun σ=>Mw l m .aJ .aJ (decide (l= [])) (decide (m= [])) hl hm σ;simp only[eO];generalize decide (l=m)=d at j⊢;refine ad.ob func26 ?_;exact gE aa tI @j
theorem Dl (t o:Ty) (aF v u:Nat) (c0 M L K J I c7 H G E D A:AV) (σ:AS)
 (h:σ aF=some (.cells 74 [c0,M,L,K,J,.sc (.func (.func 25) #[] #[]),I,c7,H,G,E,D,A]))
 (F:σ v=some (.cells 319 [.ptr aF 4])) (y:σ u=some (.cells 49 (cB t).cells)):
 ad prog 242 [cB o,.ptr v 0,.ptr u 0] σ (aq (.sc (.bool (decide (o=t)))) σ) No:=by
 have w:=fun σ=>GU o t σ;generalize decide (o=t)=d at w⊢;simp only[aE,bq]at y w⊢;refine ad.ob func242 ?_;refine gO xJ tI tI ?_;intro id j;have l:¬aF=id:=nq h j;have q:¬v=id:=nq F j;have n:¬u=id:=nq y j;refine gO xJ (j6 l @h q @F n @y) @w ?_;exact AS.ao (lR _) j
theorem Ak (t o:List Ty) (ht:t.length≤1000000) (y:o.length≤1000000) (aF l j:Nat) (c0 K J I H G F E D v u q:AV) (σ:AS)
 (h:σ aF=some (.cells 74 [c0,K,J,I,H,G,F,.sc (.func (.func 26) #[] #[]),E,D,v,u,q]))
 (A:σ l=some (.cells 267 [.ptr aF 6])) (w:σ j=some (.cells 47 [yy t])):
 ad prog 193 [yy o,.ptr l 0,.ptr j 0] σ (aq (.sc (.bool (decide (o=t)))) σ) No:=by
 have n:=fun σ=>GS o t y ht σ;generalize decide (o=t)=d at n⊢;simp only[eO]at w n⊢;refine ad.ob func193 ?_;exact gE F4 (j3 @h @A @w) @n
theorem mS (t:Ty) (l:List Ty) (aF Q:Nat) (c0 c1 c2 c3 c6 c7 c8 c9 Z Y X:AV) (hl:l.length≤100000) (σ:AS)
 (h:σ aF=some (.cells 74 [c0,c1,c2,c3,.ah 49 (l.map cB) (.tok Q) (decide (l= [])),.sc (.func (.func 25) #[] #[]),c6,c7,c8,c9,Z,Y,X]))
 (V:σ Q=some (.tok l.length)):
 ad prog 189 [.ptr aF 4,cB t] σ (aq (zI (kU l t))
  ((σ.set aF (.cells 74 [c0,c1,c2,c3,.ah 49 ((jJ l t).map cB) (.tok Q) (decide (jJ l t= [])),.sc (.func (.func 25) #[] #[]),c6,c7,c8,c9,Z,Y,X])).set Q (.tok (jJ l t).length))) No:=by
 have hi:=fun σ fv hf=>rT l (.tok Q) (decide (l= [])) fv (fun o=>decide (o=t)) σ (by omega) hf;have A:¬aF=Q:=nq h V;have J:=ba A;refine ad.ob func189 ?_;by_cases hm:t∈l
 ·obtain⟨e1,e2,e3⟩:=DG hm;rw[e1]at hi;simp only[e2,kU];rw[AS.eR h,AS.eR V];simp only[aE]at hi⊢;refine gO mE tI tI ?_;intro I y;refine gO mE tI tI ?_;intro H q L;have w:=ba q;have n:¬aF=I:=nq h y;have F:=ba n;have v:¬Q=I:=nq V y;have D:=ba v;have K:σ H=none:=by simpa[AS.set,q]using L
  have j:¬aF=H:=nq h K;have E:=ba j;have u:¬Q=H:=nq V K;have G:=ba u;have ac:=fun σ' h2 h3 h4=>hi σ' (.fn (.func 242) [] [.ptr I 0,.ptr H 0]) (fun x hx=>nJ.fn (Dl t x aF I H c0 c1 c2 c3 (.ah 49 (l.map cB) (.tok Q) (decide (l= []))) c6 c7 c8 c9 Z Y X σ' h2 h3 (by simpa only[aE]using h4)));have a3:¬((Bo l t:Int)<0):=by omega
  have af:zW ((Bo l t:Int)+1)=(Bo l t:Int)+1:=aI (by omega) (by omega);refine gO mE (j6 @a3 @af q n @h j) @ac ?_;exact AS.ao (AS.ao (lR _) y) (by simp[K])
 ·obtain⟨e1,e2,e3⟩:=DF hm;rw[e1]at hi;simp only[e2,kU,e3];simp only[aE]at hi⊢;refine gO mE tI tI ?_;intro I y;refine gO mE tI tI ?_;intro H q L;have w:=ba q;have n:¬aF=I:=nq h y;have F:=ba n;have v:¬Q=I:=nq V y;have D:=ba v;have K:σ H=none:=by simpa[AS.set,q]using L
  have j:¬aF=H:=nq h K;have E:=ba j;have u:¬Q=H:=nq V K;have G:=ba u;have ac:=fun σ' h2 h3 h4=>hi σ' (.fn (.func 242) [] [.ptr I 0,.ptr H 0]) (fun x hx=>nJ.fn (Dl t x aF I H c0 c1 c2 c3 (.ah 49 (l.map cB) (.tok Q) (decide (l= []))) c6 c7 c8 c9 Z Y X σ' h2 h3 (by simpa only[aE]using h4)));have af:zW ((l.length:Int)+1)=(l.length:Int)+1:=aI (by omega) (by omega)
  repeat' (first
   |refine g1 ?_
   |((first|refine g2 ?_ |((with_reducible apply dX 4 wj);refine dY mixed ?_)|((with_reducible apply aj.id);first|apply aj.aL (ac _ (by simp[n,j,h]) (by simp[w]) (by simp))));simp-implicitDefEqProofs [af,A,w,n,h,D,v,V,j,u])
   |trivial
   |(with_reducible apply j2)
   |((with_reducible first|apply aA.ret|apply aA.skip|apply aA.exit);try simp-implicitDefEqProofs))
  ·have F_:=(j2 (j7 y @K A J q w F) (j2 (j7 n @h D v @V E j) (j2 G u)));intro U y_;refine gK F_ U Q fun T=>gK F_ U aF fun M=>gK F_ U I fun P=>gK F_ U H fun O=> ?_;intro S;simp[AS.set,T,M,P,O]at S⊢;try exact S
  ·have F_:=(j2 (j7 y @K A J q w F) (j2 (j7 n @h D v @V E j) (j2 G u)));intro U y_;refine gK F_ U Q fun T=>gK F_ U aF fun M=>gK F_ U I fun P=>gK F_ U H fun O=> ?_;intro S;simp[AS.set,T,M,P,O]at S⊢;try exact S
theorem Kg (t:List Ty) (ht:t.length≤1000000) (l:List (List Ty)) (hA:∀x∈l,x.length≤1000000) (aF Q:Nat) (c0 c1 c2 c3 c4 c5 c8 c9 Z Y X:AV) (hl:l.length≤100000) (σ:AS)
 (h:σ aF=some (.cells 74 [c0,c1,c2,c3,c4,c5,.ah 47 (l.map yy) (.tok Q) (decide (l= [])),.sc (.func (.func 26) #[] #[]),c8,c9,Z,Y,X]))
 (V:σ Q=some (.tok l.length)):
 ad prog 138 [.ptr aF 6,yy t] σ (aq (zI (kU l t))
  ((σ.set aF (.cells 74 [c0,c1,c2,c3,c4,c5,.ah 47 ((jJ l t).map yy) (.tok Q) (decide (jJ l t= [])),.sc (.func (.func 26) #[] #[]),c8,c9,Z,Y,X])).set Q (.tok (jJ l t).length))) No:=by
 have hi:=fun σ fv hf=>HP l (.tok Q) (decide (l= [])) fv (fun o=>decide (o=t)) σ (by omega) hf;have A:¬aF=Q:=nq h V;have J:=ba A;refine ad.ob func138 ?_;by_cases hm:t∈l
 ·obtain⟨e1,e2,e3⟩:=DG hm;rw[e1]at hi;simp only[e2,kU];rw[AS.eR h,AS.eR V];simp only[eO]at hi⊢;refine gO mH tI tI ?_;intro I y;refine gO mH tI tI ?_;intro H q L;have w:=ba q;have n:¬aF=I:=nq h y;have F:=ba n;have v:¬Q=I:=nq V y;have D:=ba v;have K:σ H=none:=by simpa[AS.set,q]using L
  have j:¬aF=H:=nq h K;have E:=ba j;have u:¬Q=H:=nq V K;have G:=ba u;have ac:=fun σ' h2 h3 h4=>hi σ' (.fn (.func 193) [] [.ptr I 0,.ptr H 0]) (fun x hx=>nJ.fn (Ak t x ht (hA x hx) aF I H c0 c1 c2 c3 c4 c5 (.ah 47 (l.map yy) (.tok Q) (decide (l= []))) c8 c9 Z Y X σ' h2 h3 (by simpa only[eO]using h4)));have a5:¬((Bo l t:Int)<0):=by omega
  have af:zW ((Bo l t:Int)+1)=(Bo l t:Int)+1:=aI (by omega) (by omega);refine gO mH (j6 @a5 @af q n @h j) @ac ?_;exact AS.ao (AS.ao (lR _) y) (by simp[K])
 ·obtain⟨e1,e2,e3⟩:=DF hm;rw[e1]at hi;simp only[e2,kU,e3];simp only[eO]at hi⊢;refine gO mH tI tI ?_;intro I y;refine gO mH tI tI ?_;intro H q L;have w:=ba q;have n:¬aF=I:=nq h y;have F:=ba n;have v:¬Q=I:=nq V y;have D:=ba v;have K:σ H=none:=by simpa[AS.set,q]using L
  have j:¬aF=H:=nq h K;have E:=ba j;have u:¬Q=H:=nq V K;have G:=ba u;have ac:=fun σ' h2 h3 h4=>hi σ' (.fn (.func 193) [] [.ptr I 0,.ptr H 0]) (fun x hx=>nJ.fn (Ak t x ht (hA x hx) aF I H c0 c1 c2 c3 c4 c5 (.ah 47 (l.map yy) (.tok Q) (decide (l= []))) c8 c9 Z Y X σ' h2 h3 (by simpa only[eO]using h4)));have af:zW ((l.length:Int)+1)=(l.length:Int)+1:=aI (by omega) (by omega)
  repeat' (first
   |refine g1 ?_
   |((first|refine g2 ?_ |((with_reducible apply dX 4 lJ);refine dY mixed ?_)|((with_reducible apply aj.id);first|apply aj.aL (ac _ (by simp[n,j,h]) (by simp[w]) (by simp))));simp-implicitDefEqProofs [af,A,w,n,h,D,v,V,j,u])
   |trivial
   |(with_reducible apply j2)
   |((with_reducible first|apply aA.ret|apply aA.skip|apply aA.exit);try simp-implicitDefEqProofs))
  ·have F_:=(j2 (j7 y @K A J q w F) (j2 (j7 n @h D v @V E j) (j2 G u)));intro U y_;refine gK F_ U Q fun T=>gK F_ U aF fun M=>gK F_ U I fun P=>gK F_ U H fun O=> ?_;intro S;simp[AS.set,T,M,P,O]at S⊢;try exact S
  ·have F_:=(j2 (j7 y @K A J q w F) (j2 (j7 n @h D v @V E j) (j2 G u)));intro U y_;refine gK F_ U Q fun T=>gK F_ U aF fun M=>gK F_ U I fun P=>gK F_ U H fun O=> ?_;intro S;simp[AS.set,T,M,P,O]at S⊢;try exact S
end Im
namespace Pl
open Tryz
def yF {α:Type}(p:α→Bool):List α→Option Nat
 |[]=>none
 |x::r=>if p x then some 0 else(yF p r).map (· +1)
def Au {α:Type}(p:α→Bool) (l:List α):Int:=match yF p l with|some i=>i|none=> -1
theorem Fa {α:Type}(p:α→Bool) (l:List α):decide (0≤Au p l)=l.any p:=by
 unfold Au;have:(yF p l).isSome=l.any p:=by
  induction l with
  |nil=>rfl
  |cons x r j=>by_cases h:p x<;>simp[yF,h,j]
 cases h:yF p l with
 |none=>rw[h]at this;simp at this;simp;simpa using this
 |some k=>rw[h]at this;simp[←this]
def sV (l:zY):AV:=zS l
theorem E1 (l:zY) (hl:l.length≤140737488355328) (σ:AS):ad prog 67 [sV l] σ (aq (.sc (.bool (!bY l))) σ) No:=by refine ad.ob func67 ?_;simp only[sV];exact gE aa tI (tX l hl)
def UX (l:List (zY)) (nl:Bool) (o:cA) (σ:AS) (m:Nat) (fr:Fr) (σ':AS):Prop:=
 ∃i:Nat,m=l.length-i∧i≤l.length∧yF (fun s=> !bY s) l=(yF (fun s=> !bY s) (l.drop i)).map (· +i)∧σ'=σ∧
  fr=gD [(0,.ah 9 (l.map sV) o nl),(1,.sc (.func (.func 67) #[] #[])),(7,zI l.length),(8,zI i)]
theorem E8 (l:List (zY)) (nl:Bool) (o:cA) (hl:l.length≤140737488355328) (w:∀s∈l,s.length≤140737488355328) (σ:AS):
 ad prog 141 [.ah 9 (l.map sV) o nl,.sc (.func (.func 67) #[] #[])] σ (aq (zI (Au (fun s=> !bY s) l)) σ) No:=by
 refine ad.ob func141 ?_;refine gO aa tI tI ?_;refine aA.cz (UX l nl o σ) (k0:=l.length) ⟨0,by omega,by omega,by simp,rfl,rfl⟩ (aP.mk (by simp)) (lR _) ?_;rintro m fr σ' ⟨i,hm,D,j,rfl,rfl⟩;by_cases n:i<l.length
 ·obtain⟨c,y,A,q,_⟩:=dK l n;obtain⟨_,u⟩:=List.getElem?_eq_some_iff.1 y;have v:((i:Int)<l.length)=True:=by simp;omega
  have hf:=fun σ=>E1 c (w c q) σ;rw[A]at j;simp only[yF]at j;cases c0:bY c with
  |false=>rw[c0]at hf;simp[c0]at j;refine gO aa (j4 v n @u @sV.eq_1) @hf ?_;simp[Au,j]
  |true=>
   rw[c0]at hf;simp only[c0,Bool.not_true,Bool.false_eq_true,if_false]at j;refine gO aa (j4 v n @u @sV.eq_1) @hf ?_;refine⟨m-1,_,_,by omega,aP.mk ?_,lR _,i+1,by omega,by omega,?_,rfl,rfl⟩
   ·simp[dv (show i<4000000000000000000 by omega)]
   ·rw[j,Option.map_map];congr 1;funext x;simp;omega
 ·have v:((i:Int)<l.length)=False:=by simp;omega
  have:l.drop i= []:=List.drop_eq_nil_of_le (by omega);rw[this]at j;refine gO aa v tI ?_;simp[Au,j,yF]
theorem lD {α:Type}(p:α→Bool) (l:List α):l.any (fun s=> !p s)= !l.all p:=by
 induction l with
 |nil=>rfl
 |cons x r j=>simp[j]
theorem AN (l:List (zY)) (nl:Bool) (o:cA) (hl:l.length≤140737488355328) (j:∀s∈l,s.length≤140737488355328) (σ:AS):
 ad prog 66 [.ah 9 (l.map sV) o nl,.sc (.func (.func 67) #[] #[])] σ (aq (.sc (.bool (!l.all bY))) σ) No:=by
 refine ad.ob func66 ?_;refine gO aa tI (E8 l nl o hl j) ?_;refine Bv ?_;rw[Fa,lD]
def fJ (j:zY) (o:cA) (b9:Nat):cL:= .cells 131 [.ah 5 (j.map u8) o false,.mp b9]
theorem AA (σ:AS):ad prog 68 [] σ (fun r σ'=> ∃l b9,σ l=none∧σ b9=none∧l≠b9∧r= .ptr l 0∧σ'=(σ.set b9 (.map (cx []))).set l (fJ [0] .full b9)) No:=by refine ad.ob func68 ?_;refine gO aa tI tI ?_;unfold Pe;intro b9 n;simp-implicitDefEqProofs;intro l j o;refine gO aa tI tI ?_;exact⟨_,_,Wk.refl _,lR _,l,o,b9,n,j,rfl,rfl⟩
def PS (o:cA) (n:Nat) (σ0 σ:AS):Prop:=(o= .full∧σ=σ0)∨(∃j,o= .tok j∧σ0 j=none∧σ=σ0.set j (.tok n))
theorem E0 (j s:zY) (o:cA) (aF:Nat) (σ0 σ:AS) (v:PS o j.length σ0 σ) (l:σ0 aF=some (.cells 9 [sV s])) (h1:j.length≤1000000) (w:s.length≤1000000):
 ad prog 70 [.ah 5 (j.map u8) o false,.ptr aF 0] σ (gy (fun n=> .ah 5 ((j++s++ [0]).map u8) (.tok n) false) (j++s++ [0]).length σ0) No:=by
 refine ad.ob func70 ?_;rcases v with⟨rfl,rfl⟩|⟨n,rfl,q,rfl⟩
 ·refine gO aa (j2 @l @sV.eq_1) tI ?_;intro n u;refine gO aa tI tI ?_;refine aW n u (du (by first|rfl|simp)) ?_;exact dP (lR _) (by first|omega|(simp;omega))
 ·have n1:¬aF=n:=by intro e;subst e;rw[q]at l;cases l
  refine gO aa (j3 @l @sV.eq_1 @n1) tI ?_;refine aW n q (du (by first|rfl|simp)) ?_;exact dP (lR _) (by first|omega|(simp;omega))
theorem PS.le {o:cA}{n:Nat}{σ0 σ:AS}(h:PS o n σ0 σ):AS.le σ0 σ:=by
 rcases h with⟨_,rfl⟩|⟨l,_,j,rfl⟩
 ·exact lR _
 ·exact aw j (lR _)
theorem Dk (n b9:Nat) (l s:zY) (o:cA) (j:List (ByteArray×AV)) (q:Int) (v:AV) (σ:AS) (h1:σ n=some (fJ l o b9)) (u:σ b9=some (.map (cx j))) (hf:fH ⟨s.toArray⟩ j=some (zI q)):
 ad prog 69 [.ptr n 0,sV s,v] σ (aq (zI q) σ) No:=by
 refine ad.ob func69 ?_;simp only[sV,fJ]at h1⊢;refine gO (S:= [1]) aa tI tI ?_
 with_reducible apply aA.dB
 refine bQ.first 5 ?_;simp-implicitDefEqProofs [h1];refine bQ.sp rfl (iD.lookup (by decide) b9 ⟨s.toArray⟩ j underlying129 underlying9 (by simp) (by simp) (by simp) u ?_);refine bQ.rest ?_;simp-implicitDefEqProofs [kA,hf];exact gE aa tI tI
theorem Dj (n b9:Nat) (j l s:zY) (o:cA) (q:List (ByteArray×AV)) (f:Nat) (v:List AV) (σ0 σ:AS) (A:¬n=b9) (h1:σ0 n=some (fJ j o b9)) (y:σ0 b9=some (.map (cx q))) (D:PS o j.length σ0 σ)
 (hf:fH ⟨s.toArray⟩ q=none) (hl:j.length≤1000000)
 (ht:ad prog f ([.ah 5 (j.map u8) o false]++v) σ (gy (fun u=> .ah 5 (l.map u8) (.tok u) false) l.length σ0) No):
 ad prog 69 [.ptr n 0,sV s,.fn (.func f) [] v] σ
  (fun r σ'=> ∃u,σ0 u=none∧r=zI j.length∧σ'=((σ0.set u (.tok l.length)).set n (fJ l (.tok u) b9)).set b9 (.map (cx (ja ⟨s.toArray⟩ (zI j.length) q)))) No:=by
 have g1:=D.le n _ h1;have g2:=D.le b9 _ y;have G:az prog 3=zI 0:=by simp
 refine ad.ob func69 ?_;simp only[sV,fJ]at h1 g1⊢;refine gO (S:= [1,4,5]) aa tI tI ?_
 with_reducible apply aA.dB
 refine bQ.first 5 ?_;simp-implicitDefEqProofs [g1];refine bQ.sp rfl (iD.lookup (by decide) b9 ⟨s.toArray⟩ q underlying129 underlying9 (by simp) (by simp) (by simp) g2 ?_);refine bQ.rest ?_;simp-implicitDefEqProofs [kA,hf,G];refine gO (S:= [1,4,5]) aa @g1 tI ?_
 with_reducible apply aA.region
 simp-implicitDefEqProofs [g1];refine⟨_,_,ht,?_,fun _ _ h=>h.elim⟩;rintro r E ⟨u,w,rfl,rfl⟩;have n1:¬n=u:=by intro e;subst e;rw[w]at h1;cases h1
 have n2:¬b9=u:=by intro e;subst e;rw[w]at y;cases y
 have F:=ba A;simp-implicitDefEqProofs [h1,n1];refine gO (S:= [5]) aa tI tI ?_
 with_reducible apply aA.dB
 refine bQ.first 6 ?_;simp-implicitDefEqProofs;refine bQ.sp rfl (iD.mapUpdate b9 ⟨s.toArray⟩ q underlying129 underlying9 (by simp) (by simp) (by simp[y,n2,F]) ?_);refine bQ.rest ?_;simp-implicitDefEqProofs;refine gO aa tI tI ?_;exact⟨_,_,Wk.refl _,lR _,u,w,rfl,rfl⟩
end Pl
namespace Cd
def eY (o:Int):Int:=if o=0 then 0 else if o=1 then 4 else if o=2 then 8 else if o=3∨o=4 then 1 else 2
def oO (op:Int):Int:=(gZ op).2.1
def dV (x:dM):Bool:=if x.op<1∨75<x.op then false else if oO x.op=8 then nL x.t&&(decide (0<x.arg)&&decide (x.arg<16384))else jf x (oO x.op)
theorem mr (op:Int):0≤oO op∧oO op≤8:=by
 by_cases h:op<1∨75<op
 ·simp[oO,tv op h]
 ·have:=uU ⟨(op-1).toNat,by omega⟩;have e:(((op-1).toNat:Nat):Int)+1=op:=by omega
  simp only[e]at this;exact this
theorem M7 {op:Int}(h:op<1∨75<op):oO op=0:=by simp[oO,tv op h]
theorem kr (o:Int):0≤eY o∧eY o≤8:=by unfold eY;split<;>(try split)<;>(try split)<;>(try split)<;>omega
def aK:List dM→Int→List Int
 |[],a=> [a]
 |x::r,a=>a::aK r (a+1+eY (oO x.op))
def bE (l:List dM):List Int×Int:=if 160<l.length then([],4)else if l.all dV then(aK l 0,0)else([],17)
def m64 (x:Int):Int:=x%18446744073709551616
def ji (x:dM) (t a':Int):zY:=
 if oO x.op=0 then []else if oO x.op=5 then aS (m64 (t-a')) 2 else if oO x.op=6∨oO x.op=7 then aS (m64 (x.arg+1)) 2 else aS (m64 x.arg) (eY (oO x.op)).toNat
def cS (x:dM) (t j:Int):zY:=UInt8.ofNat (x.op%256).toNat::ji x t j
def fj (P:List Int):List dM→Nat→zY
 |[],_ => []
 |x::r,i=>cS x (P.getD x.arg.toNat 0) (P.getD (i+1) 0)++fj P r (i+1)
def fY (n:Nat) (x:dM):Bool:=decide (oO x.op=5)&&decide ((n:Int)≤x.arg)
def cW (l:List dM):zY×Int:=
 if (bE l).2=0 then if l.any (fY l.length)then([],11)else(fj (aK l 0) l 0,0)else([],(bE l).2)
def NZ (n:Nat) (v:Int):Int:=if 256^n≤2*v then v-256^n else v
def sm (o v:Int):Int:=if o=1 then NZ 4 v else if o=2 then NZ 8 v else if o=6∨o=7 then v-1 else if o=5 then 0 else v
def Tr (o v:Int) (j:Nat):Int:=if o=5 then j+NZ 2 v else 0
def kS:Ty:=⟨0,0,0,false⟩
def M4 (b:zY) (a:Nat):Except (Int×Int) (dM×Int×Nat):=
 if ((b.getD a 0).toNat:Int)<1∨75<((b.getD a 0).toNat:Int)then .error (a,2)else
 if b.length<a+1+(eY (oO (b.getD a 0).toNat)).toNat then .error (b.length,1)else
 if dV ⟨(b.getD a 0).toNat,sm (oO (b.getD a 0).toNat) (s9 (N0 b (a+1:Nat) (eY (oO (b.getD a 0).toNat)).toNat)),kS⟩ then
  .ok (⟨(b.getD a 0).toNat,sm (oO (b.getD a 0).toNat) (s9 (N0 b (a+1:Nat) (eY (oO (b.getD a 0).toNat)).toNat)),kS⟩,
   Tr (oO (b.getD a 0).toNat) (s9 (N0 b (a+1:Nat) (eY (oO (b.getD a 0).toNat)).toNat)) (a+1+(eY (oO (b.getD a 0).toNat)).toNat),a+1+(eY (oO (b.getD a 0).toNat)).toNat)
 else .error (a,3)
structure RI where
 x:dM
 a:Int
 t:Int
def Iv (b:zY):Nat→Nat→Except (Int×Int) (List RI)
 |0,a=>if a<b.length then .error (a,4)else .ok []
 |k+1,a=>if a<b.length then
  match M4 b a with
  |.error e=> .error e
  |.ok (x,t,j)=>match Iv b k j with
   |.error e=> .error e
   |.ok r=> .ok (⟨x,a,t⟩::r)
  else .ok []
def Nq (L:List Int) (r:RI):Except (Int×Int) dM:=
 if oO r.x.op=5 then match L.findIdx? (fun y=>decide (y=r.t))with
  |none=> .error (r.a,11)
  |some k=> .ok { r.x with arg:=k }
 else .ok r.x
def JP (L:List Int):List RI→Except (Int×Int) (List dM)
 |[]=> .ok []
 |r::s=>match Nq L r with
  |.error e=> .error e
  |.ok x=>match JP L s with
   |.error e=> .error e
   |.ok l=> .ok (x::l)
def KN (b:zY):(List dM×List Int)×Int×Int:=
 match Iv b 160 0 with
 |.error (p,e)=>(([],[]),p,e)
 |.ok r=>match JP (r.map (·.a)) r with
  |.error (p,e)=>(([],[]),p,e)
  |.ok l=>((l,r.map (·.a)++ [(b.length:Int)]),0,0)
theorem pW (x:Int):0≤m64 x:=by unfold m64;omega
theorem MO:(256:Int)^2=65536:=by decide
theorem MM:(256:Int)^4=4294967296:=by decide
theorem ML:(256:Int)^8=18446744073709551616:=by decide
theorem xY {n:Nat}(h:n=2∨n=4∨n=8) {x:Int}(h1: -(256^n)≤2*x) (j:2*x<256^n):NZ n (m64 x%256^n)=x:=by rcases h with rfl|rfl|rfl<;>simp only[NZ,m64,MO,MM,ML]at h1 j⊢ <;>split<;>omega
theorem Du (x:dM) (t j:Int):((ji x t j).length:Int)=eY (oO x.op):=by
 have h:=mr x.op;unfold ji;generalize oO x.op=o at h⊢;have:o=0∨o=1∨o=2∨o=3∨o=4∨o=5∨o=6∨o=7∨o=8:=by omega
 rcases this with rfl|rfl|rfl|rfl|rfl|rfl|rfl|rfl|rfl<;>simp[eY,an]
theorem DJ (x:dM) (t j:Int):((cS x t j).length:Int)=1+eY (oO x.op):=by have:=Du x t j;simp only[cS,List.length_cons];omega
theorem kz (l:List dM) (a:Int):(aK l a).length=l.length+1:=by
 induction l generalizing a with
 |nil=>rfl
 |cons x r j=>simp[aK,j]
theorem zO (l:List dM) (a:Int):(aK l a).getD 0 0=a:=by cases l<;>rfl
theorem mj (l:List dM) (a:Int):∀y∈aK l a,a≤y:=by
 induction l generalizing a with
 |nil=>simp[aK]
 |cons x r n=>
  intro y j;have hw:=(kr (oO x.op)).1;simp only[aK,List.mem_cons]at j;rcases j with rfl|j
  ·omega
  ·have:=n _ y j;omega
theorem mi (l:List dM) (a:Int):∀y∈aK l a,y≤a+9*l.length:=by
 induction l generalizing a with
 |nil=>simp[aK]
 |cons x r n=>
  intro y j;have hw:=(kr (oO x.op)).2;simp only[aK,List.mem_cons]at j;simp only[List.length_cons];rcases j with rfl|j
  ·omega
  ·have:=n _ y j;omega
theorem xb (l:List dM) (a:Int):(aK l a).Pairwise (· < ·):=by
 induction l generalizing a with
 |nil=>simp[aK]
 |cons x r j=>simp only[aK,List.pairwise_cons];refine⟨fun y n=> ?_,j _⟩;have:=mj r _ y n;have hw:=(kr (oO x.op)).1;omega
theorem Ca {t:Ty}(h:nL t=true):t=kS:=by obtain⟨k,i,d,r⟩:=t;simp only[nL,Bool.and_eq_true,decide_eq_true_eq,Bool.not_eq_true']at h;obtain⟨rfl,rfl,rfl,rfl⟩:=h;rfl
theorem HG:nL kS=true:=by decide
theorem kZ {x:dM}(h:dV x=true):1≤x.op∧x.op≤75∧x.t=kS∧(oO x.op=0→x.arg=0)∧(oO x.op=1→ -2147483648≤x.arg∧x.arg<2147483648)∧
 (oO x.op=3∨oO x.op=4→0≤x.arg∧x.arg<12)∧(oO x.op=5→0≤x.arg∧x.arg<160)∧(oO x.op=6∨oO x.op=7→0≤x.arg∧x.arg<64)∧(oO x.op=8→0<x.arg∧x.arg<16384):=by
 unfold dV at h;by_cases h0:x.op<1∨75<x.op
 ·rw[if_pos h0]at h;cases h
 rw[if_neg h0]at h;refine⟨by omega,by omega,?_⟩;have j:=mr x.op;generalize oO x.op=o at h j⊢;have:o=0∨o=1∨o=2∨o=3∨o=4∨o=5∨o=6∨o=7∨o=8:=by omega
 rcases this with rfl|rfl|rfl|rfl|rfl|rfl|rfl|rfl|rfl<;>simp[jf]at h⊢ <;>first
  |exact Ca h
  |exact⟨Ca h.1,h.2⟩
  |(refine⟨Ca h.1,?_⟩;omega)
theorem m9 {b:zY}{a:Nat}{c:UInt8}(h:At b a [c]):a<b.length∧b.getD a 0=c:=by
 obtain⟨h1,n⟩:=h;have l:a<b.length:=by simp at h1;omega
 have j:((b.drop a).take 1)[0]? =some c:=by have:(b.drop a).take 1= [c]:=n;rw[this];rfl
 rw[List.getElem?_take_of_lt (by omega),List.getElem?_drop,Nat.add_zero]at j;exact⟨l,by rw[List.getD_eq_getElem?_getD,j];rfl⟩
theorem K3 {x:dM}(h:dV x=true) (A:oO x.op=2→ -9223372036854775808≤x.arg∧x.arg<9223372036854775808) (t a':Int) (w:oO x.op=5→ -32768≤t-a'∧t-a'<32768):
 sm (oO x.op) (s9 (ji x t a'))=(if oO x.op=5 then 0 else x.arg)∧(oO x.op=5→NZ 2 (s9 (ji x t a'))=t-a'):=by
 obtain⟨_,_,_,v,u,l,D,j,q⟩:=kZ h;have E:=mr x.op;unfold ji;generalize oO x.op=o at*;have:o=0∨o=1∨o=2∨o=3∨o=4∨o=5∨o=6∨o=7∨o=8:=by omega
 have hm:=fun y=>yA (m64 y) (pW y);rcases this with rfl|rfl|rfl|rfl|rfl|rfl|rfl|rfl|rfl
 ·simp[sm,s9];exact(v rfl).symm
 ·refine⟨?_,by simp⟩;have:=u rfl;simp[sm,eY,hm];exact xY (n:=4) (by omega) (by rw[MM];omega) (by rw[MM];omega)
 ·refine⟨?_,by simp⟩;have:=A rfl;simp[sm,eY,hm];exact xY (n:=8) (by omega) (by rw[ML];omega) (by rw[ML];omega)
 ·refine⟨?_,by simp⟩;have:=l (by simp);simp[sm,eY,hm];simp only[m64];omega
 ·refine⟨?_,by simp⟩;have:=l (by simp);simp[sm,eY,hm];simp only[m64];omega
 ·have:=w rfl;refine⟨by simp[sm],fun _ => ?_⟩;simp;rw[hm];exact xY (n:=2) (x:=t-a') (by omega) (by rw[MO];omega) (by rw[MO];omega)
 ·refine⟨?_,by simp⟩;have:=j (by simp);simp[sm,hm];simp only[m64];omega
 ·refine⟨?_,by simp⟩;have:=j (by simp);simp[sm,hm];simp only[m64];omega
 ·refine⟨?_,by simp⟩;have:=q rfl;simp[sm,eY,hm];simp only[m64];omega
def bare (x:dM):dM:=if oO x.op=5 then { x with arg:=0 } else x
theorem KX (x:dM):(bare x).op=x.op:=by unfold bare;split<;>rfl
theorem He {x:dM}(h:dV x=true):dV (bare x)=true:=by
 unfold bare;split
 ·rename_i j;obtain⟨h1,n,l,_⟩:=kZ h;unfold dV;rw[if_neg (by simp;omega),if_neg (by simp[j])];simp[j,jf,l,HG]
 ·exact h
theorem M3 {b:zY}{a:Nat}{x:dM}{t:Int}(h:dV x=true) (A:oO x.op=2→ -9223372036854775808≤x.arg∧x.arg<9223372036854775808)
 (j:At b a (cS x t (a+1+eY (oO x.op)))) (y:oO x.op=5→ -32768≤t-(a+3)∧t-(a+3)<32768):
 M4 b a= .ok (bare x,if oO x.op=5 then t else 0,a+1+(eY (oO x.op)).toNat):=by
 obtain⟨G,F,u,_⟩:=kZ h;unfold cS at j;rw[At.cons]at j;obtain⟨q,n⟩:=j;obtain⟨_,v⟩:=m9 q;have o:(((b.getD a 0).toNat:Nat):Int)=x.op:=by rw[v];simp;omega
 have hw:=kr (oO x.op);have hl:=Du x t (a+1+eY (oO x.op));have l:N0 b (a+1:Nat) (eY (oO x.op)).toNat=ji x t (a+1+eY (oO x.op)):=by rw[MC];have:=n.2;rwa [show(ji x t (a+1+eY (oO x.op))).length=(eY (oO x.op)).toNat by omega]at this
 have hlen:=n.1;obtain⟨E,D⟩:=K3 h A t (a+1+eY (oO x.op)) (fun e=>by rw[show eY (oO x.op)=2 by rw[e];rfl];have:=y e;omega);have w:(⟨x.op,sm (oO x.op) (s9 (ji x t (a+1+eY (oO x.op)))),kS⟩:dM)=bare x:=by rw[E,←u];obtain⟨op,arg,ty⟩:=x;unfold bare;simp only;split<;>rfl
 unfold M4;rw[o,if_neg (by omega),if_neg (by omega),l,w,if_pos (He h)];congr 3;unfold Tr;split
 ·rename_i e;rw[D e];omega
 ·rfl
def LH (P:List Int):List dM→Int→List RI
 |[],_ => []
 |x::r,a=>⟨bare x,a,if oO x.op=5 then P.getD x.arg.toNat 0 else 0⟩::LH P r (a+1+eY (oO x.op))
theorem MI (P:List Int) (l:List dM) (a:Int):(LH P l a).map (·.a)=(aK l a).dropLast:=by
 induction l generalizing a with
 |nil=>rfl
 |cons x r j=>
  simp only[LH,aK,List.map_cons,j];cases n:aK r (a+1+eY (oO x.op))with
  |nil=>have:=kz r (a+1+eY (oO x.op));rw[n]at this;simp at this
  |cons y z=>simp
theorem Ny {b:zY}{P:List Int}(O:∀y∈P,0≤y∧y≤1440):∀(l:List dM) (i a k:Nat),l.length≤k→(∀x∈l,dV x=true∧(oO x.op=5→x.arg.toNat<P.length))→
 (∀x∈l,oO x.op=2→ -9223372036854775808≤x.arg∧x.arg<9223372036854775808)→P.drop i=aK l a→At b a (fj P l i)→a+(fj P l i).length=b.length→Iv b k a= .ok (LH P l a):=by
 intro l;induction l with
 |nil=>intro i a k _ _ _ _ _ hl;simp[fj]at hl;cases k<;>simp[Iv,hl,LH]
 |cons x r Q=>
  intro i a k M q H u w hl;obtain⟨k,rfl⟩:∃j,k=j+1:=⟨k-1,by simp at M;omega⟩;simp only[fj]at w hl;rw[At.app]at w;obtain⟨D,A⟩:=w;have n:i<P.length:=by
   rcases Nat.lt_or_ge i P.length with h|h
   ·exact h
   ·rw[List.drop_eq_nil_of_le h]at u;simp[aK]at u
  have G:P.drop (i+1)=aK r (a+1+eY (oO x.op)):=by rw[List.drop_eq_getElem_cons n]at u;simp only[aK]at u;exact(List.cons.inj u).2
  have U:(a:Int)=P[i]:=by rw[List.drop_eq_getElem_cons n]at u;simp only[aK]at u;exact(List.cons.inj u).1.symm
  have K:P.getD (i+1) 0=a+1+eY (oO x.op):=by
   have:(P.drop (i+1)).getD 0 0=a+1+eY (oO x.op):=by rw[G,zO]
   simpa[List.getD_eq_getElem?_getD]using this
  rw[K]at D A hl;have S:=kr (oO x.op);have T:=DJ x (P.getD x.arg.toNat 0) (a+1+eY (oO x.op));have L:=q x (by simp);have J:a<b.length:=by have:=D.1;omega
  have F:=M3 L.1 (H x (by simp)) D (fun e=>by
   have h1:=L.2 e;have X:=O _ (List.getElem_mem h1);have V:=O _ (List.getElem_mem n);have:P.getD x.arg.toNat 0=P[x.arg.toNat]:=by simp[List.getD_eq_getElem?_getD,h1]
   rw[this];omega)
  have o:((a+1+(eY (oO x.op)).toNat:Nat):Int)=a+1+eY (oO x.op):=by omega
  have v:a+(cS x (P.getD x.arg.toNat 0) (a+1+eY (oO x.op))).length=a+1+(eY (oO x.op)).toNat:=by omega
  rw[v]at A;have E:=Q (i+1) (a+1+(eY (oO x.op)).toNat) k (by simp at M;omega) (fun y I=>q y (by simp[I])) (fun y I=>H y (by simp[I]))
   (by rw[o];exact G) A (by rw[←hl,List.length_append];omega)
  simp only[Iv,if_pos J,F,E,LH,o]
theorem AO (P:List Int):∀(l:List dM) (i:Nat) (a:Int),(aK l a).getLast?=some (a+(fj P l i).length):=by
 intro l;induction l with
 |nil=>intro i a;simp[aK,fj]
 |cons x r j=>intro i a;have h:=j (i+1) (a+1+eY (oO x.op));have n:=DJ x (P.getD x.arg.toNat 0) (P.getD (i+1) 0);simp only[aK,fj];rw[List.getLast?_cons,h];simp only[Option.getD_some,List.length_append,Option.some.injEq];omega
theorem Cr {P:List Int}(o:P.Pairwise (· < ·)) {k:Nat}(l:k<P.length):P.findIdx? (fun y=>decide (y=P[k]))=some k:=by rw[List.findIdx?_eq_some_iff_getElem];refine⟨l,by simp,fun j n=> ?_⟩;have:=List.pairwise_iff_getElem.1 o j k (by omega) l n;simp;omega
theorem MG {L P:List Int}(w:L.Pairwise (· < ·)) (n:∀k (h:k<L.length),P.getD k 0=L[k]):∀(l:List dM) (a:Int),(∀x∈l,oO x.op=5→0≤x.arg∧x.arg.toNat<L.length)→
 JP L (LH P l a)= .ok l:=by
 intro l;induction l with
 |nil=>intro a _;rfl
 |cons x r o=>
  intro a h;have v:=o (a+1+eY (oO x.op)) (fun y q=>h y (by simp[q]));have u:Nq L ⟨bare x,a,if oO x.op=5 then P.getD x.arg.toNat 0 else 0⟩= .ok x:=by
   unfold Nq;simp only[KX];by_cases j:oO x.op=5
   ·obtain⟨h0,h1⟩:=h x (by simp) j;rw[if_pos j,if_pos j,n _ h1,Cr w h1];simp only[bare,j,if_true];obtain⟨op,arg,ty⟩:=x;simp at h0⊢;omega
   ·rw[if_neg j];simp[bare,j]
  simp only[LH,JP,u,v]
theorem pT {l:List dM}(h:(bE l).2=0):l.length≤160∧l.all dV=true∧bE l=(aK l 0,0):=by
 unfold bE at h⊢;split at h
 ·simp at h
 ·rename_i h1;split at h
  ·rename_i j;rw[if_neg h1,if_pos j];exact⟨by omega,j,rfl⟩
  ·simp at h
theorem KM {l:List dM}(h:(cW l).2=0) (K:∀x∈l,-9223372036854775808≤x.arg∧x.arg<9223372036854775808):
 KN (cW l).1=((l,aK l 0),0,0)∧(bE l).2=0∧bE l=(aK l 0,0):=by
 unfold cW at h⊢;split at h;rotate_left
 ·exact absurd h (by assumption)
 rename_i H;obtain⟨hlen,w,G⟩:=pT H;split at h
 ·simp at h
 rename_i hf;rw[if_pos H,if_neg hf];refine⟨?_,H,G⟩;have D:∀x∈l,oO x.op=5→x.arg<l.length:=by intro x o Q;simp only[List.any_eq_true,not_exists,not_and]at hf;have:=hf x o;simp[fY,Q]at this;exact this
 have j:∀x∈l,dV x=true:=by simpa using w
 have J:=kz l 0;have E:=mi l 0;have F:=mj l 0;have q:=Ny (b:=fj (aK l 0) l 0) (P:=aK l 0) (fun y M=>⟨F y M,by have:=E y M;omega⟩) l 0 0 160 hlen
  (fun x o=>⟨j x o,fun e=>by have:=D x o e;have:=(kZ (j x o)).2.2.2.2.2.2.1 e;omega⟩) (fun x o _ =>K x o) rfl ⟨by simp,by simp[sg]⟩ (by simp)
 have I:=MI (aK l 0) l 0;have v:=MG (L:=(aK l 0).dropLast) (P:=aK l 0) ((xb l 0).sublist (List.dropLast_sublist _)) (fun k O=>by rw[List.getElem_dropLast];simp at O;simp[List.getD_eq_getElem?_getD,show k<(aK l 0).length by omega]) l 0 (fun x o e=>by have:=D x o e;have:=(kZ (j x o)).2.2.2.2.2.2.1 e;simp[J];omega);have n:=AO (aK l 0) l 0 0;have A:(aK l 0).dropLast++ [((fj (aK l 0) l 0).length:Int)]=aK l 0:=by
  rw[List.getLast?_eq_some_iff]at n;obtain⟨T,u⟩:=n;have S:(0:Int)+((fj (aK l 0) l 0).length:Int)=((fj (aK l 0) l 0).length:Int):=by omega
  rw[S]at u;generalize ((fj (aK l 0) l 0).length:Int)=z at u⊢;rw[u];simp
 unfold KN;rw[show(((0:Nat):Int))=0 from rfl]at q;rw[q];simp only;rw[I,v];simp only;rw[A]
open Tryz
abbrev nA:dW:=(.S 0 (.S 2 (.S 4 (.R 1 (.R 3 (.S 5 (.S 6 (.S 7 (.R 8 (.S 9 (.S 10 (.S 11 (.S 12 (.S 16 (.R 13 (.S 14 (.S 15 (.S 17 .D))))))))))))))))))
abbrev nz:dW:=(.S 0 (.R 2 (.U 3 (.S 4 (.R 1 (.S 5 (.S 6 .D)))))))
theorem fp (S:List Nat):cu prog [(5,nA),(6,nz)] S:=mixed
def ez (x:dM):Prop:= -9223372036854775808≤x.arg∧x.arg<9223372036854775808
theorem xA (o:Int) (σ:AS):ad prog 234 [zI o] σ (aq (zI (eY o)) σ) No:=by
 refine ad.ob func234 ?_;by_cases h0:o=0<;>by_cases h1:o=1<;>by_cases n:o=2<;>by_cases l:o=3<;>by_cases j:o=4;all_goals first
  |(exfalso;omega)
  |skip
 all_goals
  refine gO aa (j5 @h0 @h1 @n @l @j) tI ?_;try simp[eY,h0,h1,n,l,j]
theorem xy {x:dM}(h:¬(x.op<1∨75<x.op)) (j:¬oO x.op=8):jT x=if dV x then 0 else 17:=by unfold jT dV;rw[if_neg h,if_neg h,if_neg j];rfl
theorem DQ (x:dM) (σ:AS):ad prog 233 [bJ x] σ (aq (.cp [zI (oO x.op),.sc (.bool (dV x))]) σ) No:=by
 have n:=fun σ=>Ed x.op σ;have hf:=fun σ=>Ap x σ;by_cases h:x.op<1∨75<x.op
 ·have H:=M7 h;have A:dV x=false:=by simp[dV,h]
  have D:uV x.op=3:=by simp[uV,h]
  rw[H,A];rw[D]at n;obtain⟨op,arg,k,v,d,r⟩:=x;simp only[bJ,fO]at n⊢;refine ad.ob func233 ?_;refine gO fp tI tI ?_;intro id u;refine gO fp tI @n ?_;intro w j o;have l:=ba j;refine gO fp tI tI ?_;all_goals exact gJ tI
 ·have D:uV x.op=0:=by simp[uV,h]
  rw[D]at n;by_cases y:oO x.op=8
  ·have A:dV x=(nL x.t&&(decide (0<x.arg)&&decide (x.arg<16384))):=by unfold dV;rw[if_neg h,if_pos y]
   rw[A];have q:(gZ x.op).2.1=8:=y;rw[y];obtain⟨op,arg,k,v,d,r⟩:=x;have E:gP prog 8 49 (.agg [zI k,zI v,zI d,zB r]) (.agg [zI 0,zI 0,zI 0,zB false])=some (nL ⟨k,v,d,r⟩):=by simp[nL]
   simp only[bJ,fO]at n q E⊢;rw[q]at n;generalize nL ⟨k,v,d,r⟩=nt at*;refine ad.ob func233 ?_;refine gO fp tI tI ?_;intro id u;refine gO fp tI @n ?_;intro w j o;have l:=ba j
   repeat' (first
    |refine g1 ?_
    |((first|refine g2 ?_ |((with_reducible apply dX 5 nA);refine dY mixed ?_)|((with_reducible apply dX 6 nz);refine dY mixed ?_)|((with_reducible apply aj.id);first|apply aj.aL (n _))|((with_reducible apply aM.id);first|apply aM.aL (fun _ =>n _)));simp-implicitDefEqProofs [-qT,E,l])
    |trivial
    |(with_reducible apply j2)
    |((with_reducible first|apply aA.ret|apply aA.skip|apply aA.exit);try simp-implicitDefEqProofs [-qT])
    |((with_reducible first|apply dd.split|apply bT.split|apply fS.split)<;>(intro F;(try simp-implicitDefEqProofs only[F]);(try simp at F))<;>try simp-implicitDefEqProofs [-qT,l]))
   all_goals exact gJ tI
  ·have A:=xy h y;rw[A]at hf;have q:¬(gZ x.op).2.1=8:=y;have G:oO x.op=(gZ x.op).2.1:=rfl;rw[G];generalize dV x=rb at*;generalize gZ x.op=it at*;obtain⟨op,arg,k,v,d,r⟩:=x;obtain⟨i1,i2,i3⟩:=it;simp only[bJ,fO]at n hf q⊢;cases rb;all_goals
    simp at hf;refine ad.ob func233 ?_;refine gO fp tI tI ?_;intro id u;refine gO fp tI @n ?_;intro w j o;have l:=ba j;refine gO fp (j2 @q j) @hf ?_;all_goals exact gJ tI
def kV (l:List dM) (o:cA) (nl:Bool):AV:= .ah 110 (l.map bJ) o nl
theorem sF {l:List dM}(h:(bE l).2≠0):(bE l).1= []:=by
 unfold bE at h⊢;split
 ·rfl
 ·split
  ·rename_i h1 j;rw[if_neg h1,if_pos j]at h;simp at h
  ·rfl
def fg (p:List Int×Int):AV:= .cp [.ah 3 (p.1.map bg) .aJ (decide (p.1= [])),zI p.2]
theorem qd (l:List dM) (o:cA) (nl:Bool) (hl:l.length≤140737488355328) (σ:AS):
 ad prog 186 [kV l o nl] σ (aq (fg (bE l)) σ) No:=by
 have G:=fun x σ=>DQ x σ;simp only[kV,fg];by_cases M:160<l.length
 ·have e:bE l=([],4):=by simp[bE,M]
  rw[e];refine ad.ob func186 ?_;have y:(160<(l.length:Int))=True:=eq_true (by omega);exact gE aa @y tI
 ·have y:(160<(l.length:Int))=False:=eq_false (by omega);have e:bE l=if l.all dV then(aK l 0,0)else([],17):=by simp only[bE];rw[if_neg M]
  refine ad.ob func186 ?_;refine gO aa @y tI ?_;refine aA.fG 4 3 [bg 0] false (by simp) (.inl (by simp[aG])) ?_;simp-implicitDefEqProofs;intro I L;refine gO aa tI tI ?_;refine aA.aY (α:=(Nat)×(List Int)×(Int)) ((0,[],0)) (fun⟨i,ds,a⟩=>l.length-i) (fun⟨i,ds,a⟩=>i≤l.length∧ds.length=i∧l.all dV=(l.drop i).all dV∧ds++aK (l.drop i) a=aK l 0∧0≤a∧a≤9*i) [(14,?_),(15,?_)] (fun⟨i,ds,a⟩=> [(16,zI i),(4,.ah 3 (ds.map bg++ [zI a]) (.tok I) false),(5,zI a)]) (fun⟨i,ds,a⟩=>σ.set I (.tok (ds.length+1))) ?_ ?_ ?_ ?_;rotate_left 2
  ·exact gF tI
  ·exact gT
  ·exact⟨by omega,rfl,rfl,rfl,by omega,by omega⟩
  intro O F;obtain⟨i,ds,a⟩:=O;try dsimp only at F⊢
  obtain⟨hi,X,u,A,Z,Y⟩:=F;simp only[fm];by_cases v:i<l.length
  ·have E:zW ((i:Int)+1)=((i+1:Nat):Int):=bh (by omega);rw[List.drop_eq_getElem_cons v]at u A;have n:=G l[i];have U:=kr (oO l[i].op);have H:=fun σ=>xA (oO l[i].op) σ;generalize J:l[i]=x at*;simp only[List.all_cons,aK]at u A;generalize T:oO x.op=D at*;obtain⟨op,arg,k,S,d,r⟩:=x;cases K:dV ⟨op,arg,k,S,d,r⟩
   ·rw[K]at u n;simp only[Bool.false_and]at u;rw[e,u];simp only[bJ]at n;refine gO aa (j4 v @J @bJ.eq_1 @ae) tI ?_;intro id j w;have q:=ba j;refine gO aa tI @n ?_;all_goals exact gJ tI
   ·rw[K]at u n;simp only[Bool.true_and]at u;have Q:zW (1+eY D)=1+eY D:=aI (by omega) (by omega);have P:zW (a+(1+eY D))=a+(1+eY D):=aI (by omega) (by omega);simp only[bJ]at n;have V:ds.length≤160:=by omega
    refine gO aa (j4 v @J @bJ.eq_1 @ae) tI ?_;intro id j w;have q:=ba j;refine gO aa (j4 j @Q @P @E) (j2 @n @H) ?_;refine aH.mk ((i+1,ds++ [a],a+(1+eY D))) (by(try dsimp only);omega) (gF @aG) (by(try dsimp only);(simp;exact aw (by simp[j,w]) (lR _))) ?_;try dsimp only
    exact⟨by omega,by simp[X],u,by rw[←A];simp[Int.add_assoc],by omega,by omega⟩
  ·rw[List.drop_eq_nil_of_le (by omega)]at A u;rw[e,u];simp only[aK]at A;repeat (first
    |refine g1 ?_
    |((first|refine g2 ?_);simp-implicitDefEqProofs [v,←A,aG])
    |(refine g3 ?_;try simp-implicitDefEqProofs))
   all_goals exact gJ tI
end Cd
end Go.Proofs.YtknalmoackcpbaaGreat
