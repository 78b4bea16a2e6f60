/- Chapter 10: loading: clauses in instructions' numbers: the program's Resolve. -/
import Derived.Test.YtknalmoackcpbaaGreatRows5
set_option maxRecDepth 100000
set_option maxHeartbeats 3200000
set_option linter.all false
open Go Go.AW Go.Proofs.Tryz List
namespace Go.Proofs.YtknalmoackcpbaaGreat
namespace Im
abbrev eD:bW:=(.S 0 (.S 1 (.S 4 (.S 5 (.S 7 (.R 2 (.A 3 (.S 11 (.R 6 (.R 8 (.S 9 (.A 10 (.A 12 (.S 13 (.A 14 .D .Z)) .Z) .Z))))) (.A 6 (.A 3 (.S 11 (.R 8 (.S 9 (.A 10 (.A 12 (.S 13 (.A 14 .D .Z)) .Z) .Z)))) (.A 8 (.S 9 (.A 3 (.S 11 (.A 10 (.A 12 (.S 13 (.A 14 .D .Z)) .Z) .Z)) .Z)) .Z)) (.A 8 (.A 3 (.S 11 (.R 6 (.S 9 (.A 10 (.A 12 (.S 13 (.A 14 .D .Z)) .Z) .Z)))) (.A 6 (.S 9 (.A 3 (.S 11 (.A 10 (.A 12 (.S 13 (.A 14 .D .Z)) .Z) .Z)) .Z)) .Z)) .Z)))))))))
abbrev di:bW:=(.S 0 (.S 1 (.S 4 (.S 5 (.S 7 (.R 2 (.A 3 (.S 11 (.R 6 (.R 8 (.S 9 (.A 10 (.A 12 (.S 13 (.A 14 .D .Z)) .Z) .Z))))) (.A 6 (.A 3 (.S 11 (.R 8 (.S 9 (.A 10 (.A 12 (.S 13 (.A 14 .D .Z)) .Z) .Z)))) (.A 8 (.S 9 (.A 3 (.S 11 (.A 10 (.A 12 (.S 13 (.A 14 .D .Z)) .Z) .Z)) .Z)) .Z)) (.A 8 (.A 3 (.S 11 (.R 6 (.S 9 (.A 10 (.A 12 (.S 13 (.A 14 .D .Z)) .Z) .Z)))) (.A 6 (.S 9 (.A 3 (.S 11 (.A 10 (.A 12 (.S 13 (.A 14 .D .Z)) .Z) .Z)) .Z)) .Z)) .Z)))))))))
def nT (S:List Nat):bH prog [(5,di),(6,di)] S:=mixed
open Rg (Cl fY aL)
open Bd (R6 dj sQ cD cy)
def k9 (P:List Int) (a:Int):Option Int:=(P.findIdx? (fun y=>decide (y=a))).map fun k=>(k:Int)
def xg (P:List Int) (o:cC) (nl:Bool) (x:Int) (u:P.Pairwise (· < ·)) (hl:P.length≤1000000) (σ:AS):
 ad prog 254 [.ao 3 (P.map aS) o nl,zI x] σ (fun r l=> ∃v,k9 P x=some v∧ah (zI v) σ r l) (fun p l=>k9 P x=none∧ah (sQ 12) σ p l):=by
 obtain⟨p,n,h⟩:=Cd.OL P x u;have i:=fun σ=>Cd.OX P x o nl p n hl h σ;have q:=Cd.Gc P x u p h;have g:=fun σ=>cD 12 σ;have j:=fun σ=>cy 12 σ;unfold k9;rw[q];refine ad.ob func254 ?_;by_cases w:P[p]? =some x
 ·exact gE aa @w (j2 @i @g)
 ·refine gO aa @w (j2 @i @j) ?_;exact⟨σ,lR _,rfl,rfl⟩
def gg {P:List Int}{o:cC}{nl:Bool}{x v:Int}(h:k9 P x=some v) (j:P.Pairwise (· < ·)) (hl:P.length≤1000000) (σ:AS):
 ad prog 254 [.ao 3 (P.map aS) o nl,zI x] σ (ah (zI v) σ) No:=
 (xg P o nl x j hl σ).mono (fun r i l=>by obtain⟨q,h1,n⟩:=l;rw[h]at h1;cases h1;exact n) (fun p i g=>by rw[h]at g;cases g.1)
def nL {P:List Int}{o:cC}{nl:Bool}{x:Int}(h:k9 P x=none) (i:P.Pairwise (· < ·)) (hl:P.length≤1000000) (σ:AS):
 ad prog 254 [.ao 3 (P.map aS) o nl,zI x] σ No (ah (sQ 12) σ):=
 (xg P o nl x i hl σ).mono (fun r g j=>by obtain⟨n,h1,q⟩:=j;rw[h]at h1;cases h1) (fun p g l=>l.2)
def MO {P:List Int}{x v:Int}(h:k9 P x=some v):0≤v∧v<P.length:=by
 unfold k9 at h;cases hf:P.findIdx? (fun y=>decide (y=x))with
 |none=>rw[hf]at h;cases h
 |some k=>rw[hf]at h;simp at h;have:=(findIdx?_eq_some_iff_getElem.1 hf).1;omega
def rq (j i:Nat) (σ:AS) (K:AS→Prop) (h:K σ):bX prog 253 [.ptr j 0,.ptr i 0] σ none K:=by
 refine bX.of func253 rfl rfl (by simp[ntmps253]) (by simp[ntmps253]) ?_;refine bq.sp rfl (ia.mH (by simp[ntmps253]) underlying316 trivial (by kernel_rfl) rfl ?_);refine bq.rest ?_;have g:ax prog 316=zI 0:=by kernel_rfl
 simp-implicitDefEqProofs [g,ntmps253];refine gO aa tI tI ?_;exact h
def Gw:Cl:=⟨0,0,0,0,0,0,0,0,0,false⟩
def mW (h g:Nat) (e:Int) (x:List AV) (l:AV) (σ:AS) (K:AS→Prop) (o:x.length=10) (u:σ h=some (.cells 158 x)) (q:σ g=some (.cells 31 [l])) (i:h≠g)
 (j:K ((σ.set h (.cells 158 (fY Gw).cells)).set g (.cells 31 [zI e]))):
 bX prog 253 [.ptr h 0,.ptr g 0] σ (some (sQ e)) K:=by
 match x,o with
 |[J,I,H,G,F,E,y,w,v,n],_ =>
 refine bX.of func253 rfl rfl (by simp[ntmps253]) (by simp[ntmps253]) ?_;refine bq.sp rfl (ia.oL (by simp[ntmps253]) underlying316 trivial rfl ?_);refine bq.rest ?_;simp only[aL,Gw,aR]at j;simp-implicitDefEqProofs [ntmps253];refine gO aa (j5 @sQ.eq_1 @recV.eq_1 @u @q @i.symm) tI ?_;exact j
def wo (r:R6):Prop:=1≤r.kd∧r.kd≤4∧0<r.tl∧0<r.hl∧0≤r.ta∧0≤r.ha
def z9 (r:R6):Prop:=r.ta≤65535∧r.tl≤65535∧r.ha≤65535∧r.hl≤65535
instance (r:R6):Decidable (wo r):=by unfold wo;infer_instance
instance (r:R6):Decidable (z9 r):=by unfold z9;infer_instance
def rv {α β:Type}(x:Option α) (f:α→Option β):Option β:=match x with|none=>none|some a=>f a
def eQ (P:List Int) (r:R6):Option Cl:=
 if ¬wo r then none else if ¬z9 r then none else
 rv (k9 P r.ta) fun a=>rv (k9 P (r.ta+r.tl)) fun b=>rv (k9 P r.ha) fun c=>rv (k9 P (r.ha+r.hl)) fun d=>
 if r.kd=2 then rv (k9 P r.ex) fun f=>if f<P.length-1 then some ⟨r.kd,a,b,c,d,f,0,0,0,false⟩ else none
 else some ⟨r.kd,a,b,c,d,-1,0,0,0,false⟩
def rS (x:Option Cl):AV:=match x with
 |some c=> .bI [fY c,zI 0]
 |none=> .bI [fY Gw,zI 12]
def D1 (P:List Int) (o:cC) (nl:Bool) (r:R6) (X:P.Pairwise (· < ·)) (hl:P.length≤1000000) (σ:AS):
 ad prog 216 [.ao 3 (P.map aS) o nl,dj r] σ (ah (rS (eQ P r)) σ) No:=by
 have hk:=fun σ=>zt r.kd σ;obtain⟨V,ab⟩:∃V,decide (1≤r.kd∧r.kd≤4)=V:=⟨_,rfl⟩;rw[ab]at hk;have L:=fun σ=>cD 12 σ;have O:=fun σ=>cy 12 σ;refine ad.iZ func216 rfl rfl (by simp[ntmps216]) (fun G1=> ?_);simp only[dj];apply kS.seq;have a6:f216.ntmps=95:=rfl;simp-implicitDefEqProofs only[a6];refine gO nT tI tI ?_;intro id3 ar;intro n;intro q ap;have i:=aK q;intro id5;intro l I am;have g:=aK l;have J:=aK I;obtain⟨A,bb,G,av,Q,bv,H⟩:=OG σ (.cells 221 [zI r.kd,zI r.ta,zI r.tl,zI r.ha,zI r.hl,zI r.ex]) (.cells 158 [zI 0,zI 0,zI 0,zI 0,zI 0,zI 0,zI 0,zI 0,zI 0,zB false]) (.cells 31 [zI 0]) ar ap am i J g;simp only[bb];clear bb;apply kS.defer (by simp) (by decide+kernel);intro D;simp-implicitDefEqProofs only[a6];have hX:¬wo r∨(wo r∧ ¬z9 r)∨(wo r∧z9 r):=by
  by_cases M:wo r
  ·by_cases Y:z9 r
   ·exact .inr (.inr ⟨M,Y⟩)
   ·exact .inr (.inl ⟨M,Y⟩)
  ·exact .inl M
 rcases hX with M|⟨M,Y⟩|⟨M,Y⟩
 ·have hS:eQ P r=none:=by rw[eQ,if_pos M]
  rw[hS];unfold wo at M;have hc:(V=false∧True∧True∧True∧True)∨(V=true∧(0<r.tl)=False∧True∧True∧True)∨(V=true∧(0<r.tl)=True∧(0<r.hl)=False∧True∧True)∨
   (V=true∧(0<r.tl)=True∧(0<r.hl)=True∧(0≤r.ta)=False∧True)∨(V=true∧(0<r.tl)=True∧(0<r.hl)=True∧(0≤r.ta)=True∧(0≤r.ha)=False):=by
   cases V
   ·exact .inl ⟨rfl,trivial,trivial,trivial,trivial⟩
   ·simp only[decide_eq_true_eq]at ab;simp only[eq_iff_iff,iff_true,iff_false,and_true,true_and,Bool.true_eq_false,false_or];omega
  rcases hc with⟨d1,d2,d3,d4,d5⟩|⟨d1,d2,d3,d4,d5⟩|⟨d1,d2,d3,d4,d5⟩|⟨d1,d2,d3,d4,d5⟩|⟨d1,d2,d3,d4,d5⟩;all_goals
   subst d1;refine gO nT (j5 @d2 @d3 @d4 @d5 @G) (j2 @hk @O) ?_;refine mW n id5 12 _ _ _ _ (by rfl) av Q g ?_;simp-implicitDefEqProofs [g,rS,aL,Gw];exact H _ fun j e3 u v y w=>by simp[AS.set,u,v,w]
 ·have hS:eQ P r=none:=by rw[eQ,if_neg (by simpa using M),if_pos Y]
  rw[hS];unfold wo at M;unfold z9 at Y;obtain⟨k1,k2,d2,d3,d4,d5⟩:=M;obtain rfl:V=true:=by rw[←ab];simp[k1,k2]
  have hc:((r.ta≤65535)=False∧True∧True∧True)∨((r.ta≤65535)=True∧(r.tl≤65535)=False∧True∧True)∨((r.ta≤65535)=True∧(r.tl≤65535)=True∧(r.ha≤65535)=False∧True)∨
   ((r.ta≤65535)=True∧(r.tl≤65535)=True∧(r.ha≤65535)=True∧(r.hl≤65535)=False):=by
   simp only[eq_iff_iff,iff_true,iff_false,and_true];omega
  rcases hc with⟨q1,q2,q3,q4⟩|⟨q1,q2,q3,q4⟩|⟨q1,q2,q3,q4⟩|⟨q1,q2,q3,q4⟩;all_goals
   refine gO (S:= [3]) nT (j5 @d2 @d3 @d4 @d5 @G) (j2 @hk @L) ?_;refine gO nT (j5 @q1 @q2 @q3 @q4 @G) @O ?_;refine mW n id5 12 _ _ _ _ (by rfl) av Q g ?_;simp-implicitDefEqProofs [g,rS,aL,Gw];exact H _ fun j e3 u v y w=>by simp[AS.set,u,v,w]
 ·have hS:eQ P r=rv (k9 P r.ta) fun a=>rv (k9 P (r.ta+r.tl)) fun b=>rv (k9 P r.ha) fun c=>rv (k9 P (r.ha+r.hl)) fun d=>
   if r.kd=2 then rv (k9 P r.ex) fun f=>if f<P.length-1 then some ⟨r.kd,a,b,c,d,f,0,0,0,false⟩ else none
   else some ⟨r.kd,a,b,c,d,-1,0,0,0,false⟩:=by rw[eQ,if_neg (by simpa using M),if_neg (by simpa using Y)]
  rw[hS];unfold wo at M;unfold z9 at Y;obtain⟨k1,k2,d2,d3,d4,d5⟩:=M;obtain⟨q1,q2,q3,q4⟩:=Y;obtain rfl:V=true:=by rw[←ab];simp[k1,k2]
  have w1:zW (r.ta+r.tl)=r.ta+r.tl:=az (by omega) (by omega);have w2:zW (r.ha+r.hl)=r.ha+r.hl:=az (by omega) (by omega);refine gO (S:= [5]) nT (j2 (j7 @d2 @d3 @d4 @d5 @q1 @q2 @q3) (j3 @q4 @G @av)) (j2 @hk @L) ?_;try apply aq.seq
  have fin:∀(S:AS) (x:List AV) (hx:x.length=10) (K:AS→Prop),S n=some (.cells 158 x)→S id5=some (.cells 31 [zI 0])→
   K ((S.set n (.cells 158 (fY Gw).cells)).set id5 (.cells 31 [zI 12]))→bX prog 253 [.ptr n 0,.ptr id5 0] S (some (sQ 12)) K:=fun S x hx K g1 g2 g3=>mW n id5 12 x _ S K hx g1 g2 g g3
  have hle:∀(x y:List AV) S',(∀j,j≠id3→j≠n→j≠id5→S' j=A j)→AS.le σ S':=fun x y S' h=>H _ fun j e3 u v y w=>by rw[h j e3 u v];exact w
  cases e1:k9 P r.ta with
  |none=>
   simp only[rv];have i1:=fun σ=>nL (o:=o) (nl:=nl) e1 X hl σ
   (((with_reducible apply aq.ub (id:=5) (t:=eD));(exact mixed);kernel_rfl;kernel_rfl;(repeat (with_reducible first|apply kc.then|apply kc.block|(apply kc.zs;decide+kernel))));simp-implicitDefEqProofs [w1,i,G])
   repeat' (first
    |(with_reducible apply j2)
    |(refine ag.gp (i1 _) ?_;try simp-implicitDefEqProofs))
   all_goals
    refine fin _ _ ?_ _ (AS.ak _ _ _) ((AS.ae _ _ l).trans Q) ?_
    ·rfl
    simp-implicitDefEqProofs [g,rS,aL,Gw];exact H _ fun j e3 u v y w=>by simp[AS.set,u,v,w]
  |some v1=>
  have i1:=fun σ=>gg (o:=o) (nl:=nl) e1 X hl σ;cases e2:k9 P (r.ta+r.tl)with
  |none=>
   simp only[rv];have i2:=fun σ=>nL (o:=o) (nl:=nl) e2 X hl σ
   (((with_reducible apply aq.ub (id:=5) (t:=eD));(exact mixed);kernel_rfl;kernel_rfl;(repeat (with_reducible first|apply kc.then|apply kc.block|(apply kc.zs;decide+kernel))));simp-implicitDefEqProofs [w1,i,G])
   repeat' (first
    |(with_reducible apply j2)
    |(refine ag.ay (i1 _) ?_;try simp-implicitDefEqProofs [w1,i,G])
    |(refine ag.gp (i2 _) ?_;try simp-implicitDefEqProofs))
   all_goals
    refine fin _ _ ?_ _ (AS.ak _ _ _) ((AS.ae _ _ l).trans Q) ?_
    ·rfl
    simp-implicitDefEqProofs [g,rS,aL,Gw];exact H _ fun j e3 u v y w=>by simp[AS.set,u,v,w]
  |some v2=>
  have i2:=fun σ=>gg (o:=o) (nl:=nl) e2 X hl σ;simp only[rv];refine Sg.xC (α:=Unit) (fun _ =>True) (fun _ => [(0,.ao 3 (P.map aS) o nl),(3,.ptr id3 0),(4,.ptr n 0),(5,.ptr id5 0)]) (fun _ =>A.set n (.cells 158 [zI r.kd,zI v1,zI v2,zI 0,zI 0,zI (-1),zI 0,zI 0,zI 0,zB false])) ?_ ?_
  ·(((with_reducible apply aq.ub (id:=5) (t:=eD));(exact mixed);kernel_rfl;kernel_rfl;(repeat (with_reducible first|apply kc.then|apply kc.block|(apply kc.zs;decide+kernel))));simp-implicitDefEqProofs [w1,i,G])
   repeat' (first
    |(with_reducible apply j2)
    |(refine ag.ay (i1 _) ?_;try simp-implicitDefEqProofs [w1,i,G])
    |(refine ag.ay (i2 _) ?_;try simp-implicitDefEqProofs))
   all_goals
    refine fK.mk (()) (gF tI) gT ?_;try dsimp only
  intro _ _;have T:(A.set n (.cells 158 [zI r.kd,zI v1,zI v2,zI 0,zI 0,zI (-1),zI 0,zI 0,zI 0,zB false])) id3=some (.cells 221 [zI r.kd,zI r.ta,zI r.tl,zI r.ha,zI r.hl,zI r.ex]):=(AS.ae _ _ i).trans G;have b4:(A.set n (.cells 158 [zI r.kd,zI v1,zI v2,zI 0,zI 0,zI (-1),zI 0,zI 0,zI 0,zB false])) n=some (.cells 158 [zI r.kd,zI v1,zI v2,zI 0,zI 0,zI (-1),zI 0,zI 0,zI 0,zB false]):=AS.ak _ _ _;have b5:(A.set n (.cells 158 [zI r.kd,zI v1,zI v2,zI 0,zI 0,zI (-1),zI 0,zI 0,zI 0,zB false])) id5=some (.cells 31 [zI 0]):=(AS.ae _ _ l).trans Q;have F:∀(S':AS),(∀j,j≠n→j≠id5→ ∀y,(A.set n (.cells 158 [zI r.kd,zI v1,zI v2,zI 0,zI 0,zI (-1),zI 0,zI 0,zI 0,zB false])) j=some y→S' j=some y)→AS.le σ S':=fun S' h=>H _ fun j e3 u v y w=>h j u v y (by rw[AS.ae _ _ u];exact w);generalize (A.set n (.cells 158 [zI r.kd,zI v1,zI v2,zI 0,zI 0,zI (-1),zI 0,zI 0,zI 0,zB false]))=E at*;try apply aq.seq
  cases e3:k9 P r.ha with
  |none=>
   simp only[];have i3:=fun σ=>nL (o:=o) (nl:=nl) e3 X hl σ
   (((with_reducible apply aq.ub (id:=6) (t:=di));(exact mixed);kernel_rfl;kernel_rfl;(repeat (with_reducible first|apply kc.then|apply kc.block|(apply kc.zs;decide+kernel))));simp-implicitDefEqProofs [w2,T])
   repeat' (first
    |(with_reducible apply j2)
    |(refine ag.gp (i3 _) ?_;try simp-implicitDefEqProofs))
   all_goals
    refine fin _ _ ?_ _ b4 b5 ?_
    ·rfl
    simp-implicitDefEqProofs [g,rS,aL,Gw];exact F _ fun j u v y w=>by simp[AS.set,u,v,w]
  |some v3=>
  have i3:=fun σ=>gg (o:=o) (nl:=nl) e3 X hl σ;cases u:k9 P (r.ha+r.hl)with
  |none=>
   simp only[];have i4:=fun σ=>nL (o:=o) (nl:=nl) u X hl σ
   (((with_reducible apply aq.ub (id:=6) (t:=di));(exact mixed);kernel_rfl;kernel_rfl;(repeat (with_reducible first|apply kc.then|apply kc.block|(apply kc.zs;decide+kernel))));simp-implicitDefEqProofs [w2,T])
   repeat' (first
    |(with_reducible apply j2)
    |(refine ag.ay (i3 _) ?_;try simp-implicitDefEqProofs [w2,T])
    |(refine ag.gp (i4 _) ?_;try simp-implicitDefEqProofs))
   all_goals first
    |(refine fin _ _ ?_ _ b4 b5 ?_
      ·rfl
      simp-implicitDefEqProofs [g,rS,aL,Gw];exact F _ fun j u v y w=>by simp[AS.set,u,v,w])
    |(refine fin _ _ ?_ _ (AS.ak _ _ _) ((AS.ae _ _ l).trans b5) ?_
      ·rfl
      simp-implicitDefEqProofs [g,l,rS,aL,Gw,aF];exact F _ fun j u v y w=>by simp[AS.set,u,v,w])
  |some v4=>
  have i4:=fun σ=>gg (o:=o) (nl:=nl) u X hl σ;simp only[];refine Sg.xC (α:=Unit) (fun _ =>True) (fun _ => [(0,.ao 3 (P.map aS) o nl),(3,.ptr id3 0),(4,.ptr n 0),(5,.ptr id5 0)]) (fun _ =>E.set n (.cells 158 [zI r.kd,zI v1,zI v2,zI v3,zI v4,zI (-1),zI 0,zI 0,zI 0,zB false])) ?_ ?_
  ·(((with_reducible apply aq.ub (id:=6) (t:=di));(exact mixed);kernel_rfl;kernel_rfl;(repeat (with_reducible first|apply kc.then|apply kc.block|(apply kc.zs;decide+kernel))));simp-implicitDefEqProofs [w2,T])
   repeat' (first
    |(with_reducible apply j2)
    |(refine ag.ay (i3 _) ?_;try simp-implicitDefEqProofs [w2,T])
    |(refine ag.ay (i4 _) ?_;try simp-implicitDefEqProofs [b4]))
   all_goals
    refine fK.mk (()) (gF tI) gT ?_;try dsimp only
  intro _ _;have p4:=MO u;have wp:zW ((P.length:Int)-1)=(P.length:Int)-1:=az (by omega) (by omega);by_cases h2:r.kd=2
  ·rw[if_pos h2];cases v:k9 P r.ex with
   |none=>
    simp only;have i5:=fun σ=>nL (o:=o) (nl:=nl) v X hl σ;repeat (first
     |refine g1 ?_
     |((first|refine g2 ?_ |((with_reducible apply dX 5 eD);refine dY mixed ?_)|((with_reducible apply dX 6 di);refine dY mixed ?_)|((with_reducible apply ag.id);first|apply ag.gp (i5 _)));simp-implicitDefEqProofs [h2,T,i])
     |(refine g3 ?_;try simp-implicitDefEqProofs [h2,T,b4,b5,i,q,g,l]))
    refine fin _ _ ?_ _ (AS.ak _ _ _) ((AS.ae _ _ l).trans b5) ?_
    ·rfl
    simp-implicitDefEqProofs [g,rS,aL,Gw];exact F _ fun j u v y w=>by simp[AS.set,u,v,w]
   |some v5=>
    have i5:=fun σ=>gg (o:=o) (nl:=nl) v X hl σ;by_cases h5:v5<P.length-1
    ·simp only[h5,if_true];repeat (first
      |refine g1 ?_
      |((first|refine g2 ?_ |((with_reducible apply dX 5 eD);refine dY mixed ?_)|((with_reducible apply dX 6 di);refine dY mixed ?_)|((with_reducible apply ag.id);first|apply ag.ay (i5 _)|apply ag.ay (L _)));simp-implicitDefEqProofs [h2,T,b5,i,l,h5,wp])
      |(refine g3 ?_;try simp-implicitDefEqProofs))
     refine rq _ _ _ _ ?_;simp-implicitDefEqProofs [g,rS,aL];exact F _ fun j u v y w=>by simp[AS.set,u,v,w]
    ·simp only[h5,if_false];repeat (first
      |refine g1 ?_
      |((first|refine g2 ?_ |((with_reducible apply dX 5 eD);refine dY mixed ?_)|((with_reducible apply dX 6 di);refine dY mixed ?_)|((with_reducible apply ag.id);first|apply ag.ay (i5 _)|apply ag.gp (O _)));simp-implicitDefEqProofs [h2,T,i,h5,wp])
      |(refine g3 ?_;try simp-implicitDefEqProofs [h2,T,b4,b5,i,q,g,l,h5,wp]))
     refine fin _ _ ?_ _ (AS.ak _ _ _) (by rw[AS.ae _ _ l];exact b5) ?_
     ·rfl
     simp-implicitDefEqProofs [g,rS,aL,Gw];exact F _ fun j u v y w=>by simp[AS.set,u,v,w]
  ·rw[if_neg h2];repeat (first
    |refine g1 ?_
    |((first|refine g2 ?_ |((with_reducible apply dX 5 eD);refine dY mixed ?_)|((with_reducible apply dX 6 di);refine dY mixed ?_));simp-implicitDefEqProofs [h2,T,b5,i,l])
    |(refine g3 ?_;try simp-implicitDefEqProofs))
   refine rq _ _ _ _ ?_;simp-implicitDefEqProofs [g,rS,aL];exact F _ fun j u v y w=>by simp[AS.set,u,v,w]
def ur (S:List Nat):bH prog [(1,(.S 1 (.S 2 (.S 3 (.S 4 (.S 10 (.S 11 (.R 0 (.R 5 (.S 6 (.R 7 (.R 8 (.U 9 (.A 12 .D .Z))))))))))))))] S:=mixed
open Cd (dz)
variable {k:LK} {e:LE} {d:LD} {B τ:AS}
def cv (l:List (List Int)):kF l= .ao 44 (l.map uW) .aI (decide (l= [])):=rfl
def LI.MU (h:LI k e d B τ) (t:Ty) (tb:Int) (r:Nat) (v:0≤tb) (ht:tb≤10) (E:r≤65535):
 ad prog 164 [.ptr k.id 0,cF t,zI tb,zI r] τ (RL (bK (eo t e.t0.length) 5 tb r (.ok ())) (fun _ =>ah (.bI []) τ)) (TL (bK (eo t e.t0.length) 5 tb r (.ok ())) τ):=by
 have l:=fun σ=>wM t e.t0.length σ;have g:=h.id;have hm:=fun σ=>lg 5 tb r σ;have w:=fun σ=>ep 5 tb r (by omega) (by omega) (by omega) (by omega) σ;have n:∀ {j},τ j=none→ ¬k.id=j:=fun u q=>by rw[←q,g]at u;cases u
 generalize eo t e.t0.length=y at l⊢;rw[cf]at g;simp only[cv,Sg.aC]at g l⊢;refine ad.ob func164 ?_;refine gO ur tI tI ?_;intro i o;have n1:=n o;have n2:¬i=k.id:=fun q=>n1 q.symm;cases y
 ·refine gO ur (j2 @g @n1) (j2 @l @w) ?_;exact⟨τ,an o (lR _),_,by simp[bK],rfl,lR _⟩
 ·refine gO ur (j2 @g @n1) (j2 @l @hm) ?_;exact⟨_,τ,Wk.refl _,an o (lR _),(),by simp[bK],rfl,rfl⟩
def jP (sp:List Ty) (row i:Int):Except gD Ty:=bK (decide (1≤row∧row≤sp.length)) 5 2 i (.ok (sp.getD (row-1).toNat dz))
def LI.spec (h:LI k e d B τ) (row:Int) (r:Nat) (K:r≤65535) (G:d.sp.length≤100000):
 ad prog 215 [.ptr k.id 0,zI row,zI r] τ (RL (jP d.sp row r) (fun v=>ah (cF v) τ)) (TL (jP d.sp row r) τ):=by
 have l:=h.id;have hm:=fun σ=>lg 5 2 r σ;have F:=fun σ=>ep 5 2 r (by omega) (by omega) (by omega) (by omega) σ;have w:∀ {j},τ j=none→ ¬k.id=j:=fun n E=>by rw[←E,l]at n;cases n
 rw[cf]at l;obtain⟨X,g⟩:∃X,jP d.sp row r=X:=⟨_,rfl⟩;rw[g];unfold jP at g;refine ad.ob func215 ?_;refine gO aa tI tI ?_;intro i q;have n1:=w q;have n2:¬i=k.id:=fun E=>n1 E.symm;by_cases o:1≤row
 ·by_cases u:row≤d.sp.length
  ·obtain⟨j,H⟩:∃j:Nat,row=(j+1:Nat):=⟨(row-1).toNat,by omega⟩;have hw:zW (row-1)=j:=by rw[show row-1=j by omega];exact az (by omega) (by omega)
   have n:j<d.sp.length:=by omega
   have I:d.sp[j]? =some d.sp[j]:=getElem?_eq_getElem n;have y:d.sp.getD j dz=d.sp[j]:=by rw[getD_eq_getElem?_getD,I];rfl
   have J:bK (decide (1≤row∧row≤d.sp.length)) 5 2 r (.ok (d.sp.getD (row-1).toNat dz):Except gD Ty)= .ok d.sp[j]:=by rw[bK,if_pos (by simp[o,u]),show(row-1).toNat=j by omega,y]
   repeat (first
    |refine g1 ?_
    |((first|refine g2 ?_ |((with_reducible apply ag.id);first|apply ag.ay (hm _)));simp-implicitDefEqProofs [l,n1,o,u,hw,n,Sg.aC])
    |(refine g3 ?_;try simp-implicitDefEqProofs))
   exact⟨_,τ,Wk.refl _,an q (lR _),_,by rw[←g,J],rfl,rfl⟩
  ·refine gO aa (j4 @l @n1 @o @u) @F ?_;exact⟨τ,an q (lR _),_,by rw[←g,bK,if_neg (by simp[u])],rfl,lR _⟩
 ·refine gO aa @o @F ?_;exact⟨τ,an q (lR _),_,by rw[←g,bK,if_neg (by simp[o])],rfl,lR _⟩
def nK:Nat→List (List (List Int)×Int)→Except gD Unit
 | _,[]=> .ok ()
 |i,x::r=>bK (decide ((x.1.length:Int)≤x.2)) 4 i 0 (nK (i+1) r)
def u0 (e:LE):List (List (List Int)×Int):= [(e.t0,32),(e.t1,64),(e.t2,64),(e.t3,128),(e.t4,16383),(e.t5,64)]
def LI.counts (h:LI k e d B τ):
 ad prog 107 [.ptr k.id 0] τ (RL (nK 0 (u0 e)) (fun _ =>ah (.bI []) τ)) (TL (nK 0 (u0 e)) τ):=by
 have j:=h.id;have hm:=fun t σ=>lg 4 t 0 σ;rw[cf]at j;simp only[cv]at j;obtain⟨X,q⟩:∃X,nK 0 (u0 e)=X:=⟨_,rfl⟩;rw[q];refine ad.ob func107 ?_;refine gO aa tI tI ?_;refine aq.aQ (α:=(Nat)) (0) (fun i=>6-i) (fun i=>i≤6∧nK i ((u0 e).drop i)=X) [(0,?_),(4,?_)] (fun i=> [(5,zI i)]) (fun i=>τ) ?_ ?_ ?_ ?_;rotate_left 2
 ·exact gF tI
 ·exact gT
 ·exact⟨by omega,q⟩
 intro i o;try dsimp only at o⊢
 obtain⟨H,n⟩:=o;simp only[eZ];by_cases F:i<6
 ·have G:((i:Int)<6)=True:=by simp;omega
  have v:=fun σ=>ep 4 i 0 (by omega) (by omega) (by omega) (by omega) σ;have E:=fun σ=>hm i σ;have l:X= .error (mF 4 i 0)→ ∃u,AS.le u τ∧TL X τ (pQ (mF 4 i 0)) u:=fun y=>⟨τ,lR _,_,y,rfl,lR _⟩;have g:i=0∨i=1∨i=2∨i=3∨i=4∨i=5:=by omega
  generalize w:u0 e=L at n;rcases g with g|g|g|g|g|g;all_goals
   simp only[u0]at w;subst w;rw[g]at n;simp only[drop_succ_cons,drop_zero,nK,bK]at n;split at n
   ·rename_i c;simp only[decide_eq_true_eq]at c;refine gO aa (j3 @c @g @j) @hm ?_;refine jC.mk (i+1) gM (gF @g) gT ?_;try dsimp only
    exact⟨by omega,by rw[g];simpa[u0,nK,bK]using n⟩
   ·rename_i c;simp only[decide_eq_true_eq]at c;rw[g]at v l;refine gO aa (j3 @c @g @j) @v ?_;exact l (by rw[←n])
 ·have G:((i:Int)<6)=False:=by simp;omega
  obtain rfl:i=6:=by omega
  refine gO aa tI tI ?_;exact⟨.bI [],τ,Wk.refl _,lR _,(),by rw[←n];rfl,rfl,rfl⟩
def cR (S:List Nat):bH prog [(8,(.S 0 (.S 1 (.S 2 (.S 3 (.R 4 (.R 5 (.S 6 (.A 7 (.S 8 (.S 9 (.A 10 .D .Z))) .Z)))))))))] S:=mixed
open Sg (fP b9 mX eT fR qo)
variable {k:LK} {e:LE} {d:LD} {B τ:AS}
def Lg (b:zY) (g:Int):(Pl.jr b g).1.length≤b.length:=by
 unfold Pl.jr;split
 ·simp
 ·split
  ·simp
  ·split
   ·simp
   ·simp only[length_drop,length_take];omega
def qz {b:zY}{g:Int}{l:zY}(h:iF b g= .ok l):l.length≤b.length:=by
 unfold iF at h;split at h
 ·cases h;exact Lg b g
 ·cases h
def zj {b:zY} :∀ {k a:Nat}{l:List Ty}{g:Nat},Sg.eList b k a= .ok (l,g)→l.length=k:=by
 intro k;induction k with
 |zero=>intro a l g h;simp[Sg.eList]at h;simp[←h.1]
 |succ k i=>
  intro a l g h;simp only[Sg.eList]at h;split at h
  ·cases h
  ·split at h
   ·cases h
   ·rename_i j;cases h;simp[i j]
def KX {b:zY}{l:List Ty}{a:Nat}(h:Sg.rH b= .ok (l,a)):l.length≤12:=by
 unfold Sg.rH at h;split at h
 ·cases h
 ·split at h
  ·split at h
   ·cases h
   ·split at h
    ·have:=zj h;omega
    ·cases h
  ·cases h
def Cv (b:zY):(mX (fR b)).length≤12:=by
 unfold fR Sg.oI;cases h:Sg.rH b with
 |error x=>simp[mX]
 |ok x=>
  obtain⟨l,a⟩:=x;simp only;split
  ·simp[mX]
  ·exact KX h
def KT {b:zY}{x:Sg.Sg}{a:Nat}(h:Sg.pU b= .ok (x,a)):x.ps.length≤6:=by
 unfold Sg.pU at h;split at h
 ·cases h
 ·split at h
  ·split at h
   ·cases h
   ·split at h
    ·split at h
     ·cases h
     ·split at h
      ·cases h
      ·rename_i g;cases h;have:=zj g;simp only;omega
    ·cases h
  ·cases h
def I7 (b:zY):(Sg.iX (Sg.dy b)).ps.length≤6:=by
 unfold Sg.dy Sg.oI;cases h:Sg.pU b with
 |error x=>simp[Sg.iX]
 |ok x=>
  obtain⟨l,a⟩:=x;simp only;split
  ·simp[Sg.iX]
  ·exact KT h
def eW (r:List Int) (i:Nat):Int:=r.getD i 0
def Ir (x:Except Int Ty):Int:=if b9 x=0∧((fP x).ref=true∨(fP x).kind=1)then 10 else b9 x
def eK (B:zY) (nt:Int):List Ty→Nat→List (List Int)→Except gD (List Ty)
 |acc,_,[]=> .ok acc
 |acc,i,r::rs=>cA (iF B (eW r 0)) fun b=>bK (decide (Ir (eT b)=0)) (Ir (eT b)) 4 i (bK (eo (fP (eT b)) nt) 5 4 i (eK B nt (acc++ [fP (eT b)]) (i+1) rs))
def kN (nt:Int) (i:Nat):List Ty→Except gD Unit
 |[]=> .ok ()
 |t::ts=>bK (eo t nt) 5 5 i (kN nt i ts)
def gZ (B:zY) (nt:Int):List (List Ty)→Nat→List (List Int)→Except gD (List (List Ty))
 |acc,_,[]=> .ok acc
 |acc,i,r::rs=>cA (iF B (eW r 0)) fun b=>bK (decide (b9 (fR b)=0)) (b9 (fR b)) 5 i (cA (kN nt i (mX (fR b))) fun _ =>gZ B nt (acc++ [mX (fR b)]) (i+1) rs)
def aw {α:Type}{b:Bool}{e t r:Int}{x X:Except gD α}(h:bK b e t r x=X):(b=true∧x=X)∨(b=false∧X= .error (mF e t r)):=by
 cases b
 ·exact .inr ⟨rfl,h.symm⟩
 ·exact .inl ⟨rfl,h⟩
def aG {α β:Type}{x:Except gD α}{k:α→Except gD β}{X:Except gD β}(h:cA x k=X):(∃a,x= .ok a∧k a=X)∨(∃f,x= .error f∧X= .error f):=by
 cases x with
 |error f=>exact .inr ⟨f,rfl,h.symm⟩
 |ok a=>exact .inl ⟨a,rfl,h⟩
def LI.WD (h:LI k e d B τ) (t:Ty):LI k e { d with sp:=d.sp++ [t] } B ((τ.set k.tP (.tok (d.sp.length+1))).set k.id (.cells 108 (Dy k e { d with sp:=d.sp++ [t] } 0))):=by
 obtain⟨n1,n2,o,n,l,i,g,w,v,q⟩:=h.ne;refine h.mk' (AS.ak _ _ _) ?_ ?_ ?_ ?_ fun j u j2 j3 j4 j5=> ?_
 ·rw[AS.ae _ _ n1.symm,AS.ak];simp
 ·rw[AS.ae _ _ n2.symm,AS.ae _ _ l.symm];exact h.tO
 ·rw[AS.ae _ _ o.symm,AS.ae _ _ i.symm];exact h.tF
 ·rw[AS.ae _ _ n.symm,AS.ae _ _ g.symm];exact h.tM
 ·rw[AS.ae _ _ u,AS.ae _ _ j2]
def LI.WE (h:LI k e d B τ) (t:List Ty):LI k e { d with lo:=d.lo++ [t] } B ((τ.set k.tO (.tok (d.lo.length+1))).set k.id (.cells 108 (Dy k e { d with lo:=d.lo++ [t] } 0))):=by
 obtain⟨n1,n2,o,n,l,w,v,i,g,q⟩:=h.ne;refine h.mk' (AS.ak _ _ _) ?_ ?_ ?_ ?_ fun j u j2 j3 j4 j5=> ?_
 ·rw[AS.ae _ _ n1.symm,AS.ae _ _ l];exact h.tP
 ·rw[AS.ae _ _ n2.symm,AS.ak];simp
 ·rw[AS.ae _ _ o.symm,AS.ae _ _ i.symm];exact h.tF
 ·rw[AS.ae _ _ n.symm,AS.ae _ _ g.symm];exact h.tM
 ·rw[AS.ae _ _ u,AS.ae _ _ j3]
def Sh {l:List (List Int)}(h:nD 1 l) {i:Nat}(j:i<l.length):∃a,l[i]? =some [a]∧l.drop i= [a]::l.drop (i+1)∧0≤a∧a<4294967296:=by
 obtain⟨h1,g⟩:=h.2 l[i] (getElem_mem j)
 match n:l[i],h1,g with
 |[a],_,g=>exact⟨a,by rw[getElem?_eq_getElem j,n],by rw[drop_eq_getElem_cons j,n],(g a (by simp)).1,(g a (by simp)).2⟩
def Jf (a:Int):uW [a]= .ao 3 [zI a] .aI false:=rfl
def WI (k:LK) (e:LE) (d:LD) (B:AS) (v:List Ty×List (List Ty)) (r:AV) (g:AS):Prop:=r= .bI []∧LI k e { d with sp:=v.1,lo:=v.2 } B g
def oE (e:LE):Except gD (List Ty×List (List Ty)):=cA (eK e.B e.t0.length [] 0 e.t4) fun sp=>cA (gZ e.B e.t0.length [] 0 e.t5) fun lo=> .ok (sp,lo)
def LI.signatures (h:LI k e d B τ) (hs:d.sp= []) (ho:d.lo= []) (hB:AS.le B τ):
 ad prog 108 [.ptr k.id 0] τ (RL (oE e) (WI k e d B)) (TL (oE e) B):=by
 have hm:=fun a t r σ=>lg a t r σ;obtain⟨X,n⟩:∃X,oE e=X:=⟨_,rfl⟩;rw[n];unfold oE at n;have ab:=h.id;rw[cf]at ab;simp only[cv]at ab;have iC:∀ {f τ'},X= .error f→AS.le B τ'→ ∃σ',AS.le σ' τ'∧TL X B (pQ f) σ':=fun {f τ'} hx hle=>⟨τ',lR _,_,hx,rfl,hle⟩;have h4:=h.e.t4;have h5:=h.e.t5;have eB:=h.e.B;obtain⟨Y,hY⟩:∃Y,eK e.B e.t0.length [] 0 e.t4=Y:=⟨_,rfl⟩;obtain⟨Z,hZ⟩:∃Z,gZ e.B e.t0.length [] 0 e.t5=Z:=⟨_,rfl⟩;rw[hY,hZ]at n;refine ad.ob func108 ?_;refine gO cR @ab tI ?_;refine aq.aQ (α:=(Nat)×(List Ty)×(AS)) ((0,[],τ)) (fun⟨i,sp,Q⟩=>e.t4.length-i) (fun⟨i,sp,Q⟩=>i≤e.t4.length∧sp.length=i∧eK e.B e.t0.length sp i (e.t4.drop i)=Y∧LI k e { d with sp:=sp } B Q) [(0,?_),(18,?_),(19,?_)] (fun⟨i,sp,Q⟩=> [(20,zI i)]) (fun⟨i,sp,Q⟩=>Q) ?_ ?_ ?_ ?_;rotate_left 3
 ·exact gF tI
 ·exact gT
 ·exact⟨by omega,rfl,hY,by rw[←hs];exact h⟩
 intro x_ E;obtain⟨i,sp,Q⟩:=x_;try dsimp only at E⊢
 obtain⟨hi,b3,g,h1⟩:=E;simp only[eZ];by_cases V:i<e.t4.length
 ·obtain⟨a,u,a0,ca,b6⟩:=Sh h4 V;have cc:=h4.1;rw[a0]at g;simp only[eK,eW,getD_cons_zero]at g;have hI:((i:Int)<e.t4.length)=True:=by simp;omega
  have hb:=h1.yx a;rcases aG g with⟨b,w,g⟩|⟨f,w,g⟩
  ·have F:=RL.ok hb w;have bc:=qz w;have P:=fun σ=>Sg.KH b .aI false (by simp) (by omega) σ;generalize eT b=s at P g;have hE:(b9 s=0∧((fP s).ref=true∨(fP s).kind=1)∧Ir s=10)∨(Ir s=b9 s∧(¬b9 s=0∨((fP s).ref=false∧ ¬(fP s).kind=1))):=by unfold Ir;by_cases c0:b9 s=0<;>by_cases c1:(fP s).ref=true<;>by_cases c2:(fP s).kind=1<;>simp[c0,c1,c2]
   generalize fP s=t at P g hE;simp only[Sg.aC]at P;have bad:=fun a σ=>ep a 4 i (by omega) (by omega) (by omega) (by omega) σ;refine gO cR (j3 hI @u @Jf) (j2 @F @P) ?_;intro T ap;have H:=h1.own (b:= .cells 49 (cF t).cells) ap;have al:AS.le B (B.set T (.cells 49 (cF t).cells)):=an (h1.mD ap) (lR _);simp only[Sg.aC,aR]at H al;have k2:(Q.set T (.cells 49 [zI t.kind,zI t.index,zI t.bT,.sc (.bool t.ref)])) T=some (.cells 49 [zI t.kind,zI t.index,zI t.bT,.sc (.bool t.ref)]):=AS.ak _ _ _;generalize (Q.set T (.cells 49 [zI t.kind,zI t.index,zI t.bT,.sc (.bool t.ref)]))=K at*;have G:=H.drop al;rcases hE with⟨c0,c1,c2⟩|⟨c2,c3⟩
   ·rw[c2]at g;have cb:Y= .error (mF 10 4 i):=g.symm;rw[cb]at n;have a2:t.ref=true∨(t.ref=false∧t.kind=1):=by cases hr:t.ref<;>simp_all
    rcases a2 with c1|⟨c1,a2⟩
    ·refine gO cR (j3 @k2 @c0 @c1) @bad ?_;exact iC n.symm G.le
    ·refine gO cR (j4 @k2 @c0 @c1 @a2) @bad ?_;exact iC n.symm G.le
   ·rw[c2]at g;rcases aw g with⟨c0,g⟩|⟨c0,g⟩
    ·have c0:b9 s=0:=by simpa using c0
     rcases c3 with c3|⟨c3,c4⟩
     ·exact absurd c0 c3
     have I:=H.MU t 4 i (by omega) (by omega) (by omega);rcases aw g with⟨c5,g⟩|⟨c5,g⟩
     ·have o:=RL.ok I (v:=()) (by simp[bK,c5]);have hP:=H.tP;have q:=H.id;have a8:=H.ne.1;have dl:=a8.symm;have b4:sp.length≤70000:=by omega
      rw[cf]at q;simp only[cv]at q hP;simp only[Sg.aC,c3]at o;have wi:zW ((i:Int)+1)=i+1:=az (by omega) (by omega);refine gO cR (j8 @k2 @c0 @c3 @c4 @q @hP @a8 @wi) (j2 @hm @o) ?_;refine gB ((i+1,sp++ [t],(K.set k.tP (.tok (sp.length+1))).set k.id (.cells 108 (Dy k e { d with sp:=sp++ [t] } 0)))) (by(try dsimp only);exact le_eq (by rw[cf];simp[Sg.aC,c3,cv])) ?_;try dsimp only
      exact⟨by omega,by simp[b3],g,G.WD t⟩
     ·have o:=RL.bad I (e:=mF 5 4 i) (by simp[bK,c5]);rw[g]at n;simp only[Sg.aC,c3]at o;refine gO cR (j4 @k2 @c0 @c3 @c4) (j2 @hm @o) ?_;refine ed ?_;intro τ5 h5;exact iC n.symm (AS.le_trans G.le h5)
    ·have c0:¬b9 s=0:=by simpa using c0
     rw[g]at n;refine gO cR @c0 @bad ?_;exact iC n.symm G.le
  ·have F:=RL.bad hb w;rw[g]at n;refine gO cR (j3 hI @u @Jf) @F ?_;refine ed ?_;intro K H;exact iC n.symm (AS.le_trans h1.le H)
 ·have hI:((i:Int)<e.t4.length)=False:=by simp;omega
  have J:e.t4.drop i= []:=drop_eq_nil_iff.2 (by omega);rw[J]at g;simp only[eK]at g;rw[←g]at n;simp only[cA]at n;have q:=h1.id;rw[cf]at q;simp only[cv]at q;clear g J V ab;refine gO cR (j2 hI @q) tI ?_;refine aq.aQ (α:=(Nat)×(List (List Ty))×(AS)) ((0,[],Q)) (fun⟨j,lo,K⟩=>e.t5.length-j) (fun⟨j,lo,K⟩=>j≤e.t5.length∧lo.length=j∧gZ e.B e.t0.length lo j (e.t5.drop j)=Z∧LI k e { d with sp:=sp,lo:=lo } B K) [(0,?_),(71,?_),(72,?_)] (fun⟨j,lo,K⟩=> [(73,zI j)]) (fun⟨j,lo,K⟩=>K) ?_ ?_ ?_ ?_;rotate_left 3
  ·exact gF tI
  ·exact gT
  ·exact⟨by omega,rfl,hZ,by rw[←ho];exact h1⟩
  intro x_ E;obtain⟨j,lo,K⟩:=x_;try dsimp only at E⊢
  obtain⟨hj,b5,g,H⟩:=E;simp only[eZ];by_cases V:j<e.t5.length
  ·obtain⟨a,u,a0,ca,b6⟩:=Sh h5 V;have cc:=h5.1;rw[a0]at g;simp only[gZ,eW,getD_cons_zero]at g;have hJ:((j:Int)<e.t5.length)=True:=by simp;omega
   have hb:=H.yx a;rcases aG g with⟨b,w,g⟩|⟨f,w,g⟩
   ·have F:=RL.ok hb w;have bc:=qz w;have am:=Cv b;have P:=fun σ=>Sg.AJ b .aI false (by simp) (by omega) σ;generalize fR b=s at P g am;generalize mX s=l at P g am;have bad:=fun a σ=>ep a 5 j (by omega) (by omega) (by omega) (by omega) σ;simp only[qo]at P;rcases aw g with⟨c0,g⟩|⟨c0,g⟩
    ·have c0:b9 s=0:=by simpa using c0
     obtain⟨W,hW⟩:∃W,kN e.t0.length j l=W:=⟨_,rfl⟩;rw[hW]at g;refine gO cR (j4 @hJ @u @Jf @c0) (j3 @F @P @hm) ?_;refine aq.aQ (α:=(Nat)×(AS)) ((0,K)) (fun⟨y,O⟩=>l.length-y) (fun⟨y,O⟩=>y≤l.length∧kN e.t0.length j (l.drop y)=W∧LI k e { d with sp:=sp,lo:=lo } B O) [(0,?_),(6,?_),(7,?_),(8,?_),(9,?_),(71,?_),(72,?_),(73,?_),(74,?_),(75,?_),(76,?_),(77,?_),(78,?_),(79,?_),(80,?_),(81,?_),(82,?_),(83,?_),(84,?_),(85,?_),(86,?_),(87,?_),(88,?_),(89,?_),(90,?_),(92,?_),(93,?_)] (fun⟨y,O⟩=> [(94,zI y)]) (fun⟨y,O⟩=>O) ?_ ?_ ?_ ?_;rotate_left 27
     ·exact gF tI
     ·exact gT
     ·exact⟨by omega,hW,H⟩
     intro x_ E;obtain⟨y,O⟩:=x_;try dsimp only at E⊢
     obtain⟨hy,M,G⟩:=E;simp only[eZ];by_cases a9:y<l.length
     ·have bb:l[y]? =some l[y]:=getElem?_eq_getElem a9;rw[drop_eq_getElem_cons a9]at M;have av:((y:Int)<l.length)=True:=by simp;omega
      generalize l[y]=t at M bb;simp only[kN]at M;have wy:zW ((y:Int)+1)=y+1:=az (by omega) (by omega);refine gO cR (j3 @av @bb @Sg.aC) tI ?_;intro i11 ar;have h4:=G.own (b:= .cells 49 (cF t).cells) ar;have af:AS.le B (B.set i11 (.cells 49 (cF t).cells)):=an (G.mD ar) (lR _);have I:=h4.MU t 5 j (by omega) (by omega) (by omega);simp only[Sg.aC,aR]at h4 af I;have k4:(O.set i11 (.cells 49 [zI t.kind,zI t.index,zI t.bT,.sc (.bool t.ref)])) i11=some (.cells 49 [zI t.kind,zI t.index,zI t.bT,.sc (.bool t.ref)]):=AS.ak _ _ _;generalize (O.set i11 (.cells 49 [zI t.kind,zI t.index,zI t.bT,.sc (.bool t.ref)]))=τ4 at*;have bs:=h4.drop af;rcases aw M with⟨c5,M⟩|⟨c5,M⟩
      ·have o:=RL.ok I (v:=()) (by simp[bK,c5]);refine gO cR (j2 @k4 @wy) @o ?_;refine gB ((y+1,τ4)) gT ?_;try dsimp only
       exact⟨by omega,M,bs⟩
      ·have o:=RL.bad I (e:=mF 5 5 j) (by simp[bK,c5]);rw[M]at g;rw[←g]at n;refine gO cR (j2 @k4 @wy) @o ?_;refine ed ?_;intro τ5 h5;exact iC n.symm (AS.le_trans bs.le h5)
     ·have av:((y:Int)<l.length)=False:=by simp;omega
      have J:l.drop y= []:=drop_eq_nil_iff.2 (by omega);rw[J]at M;simp only[kN]at M;rw[←M]at g;simp only[cA]at g;have L:=G.id;rw[cf]at L;simp only[cv]at L;have hO:=G.tO;have a7:=G.ne.2.1;have de:=a7.symm;have b4:lo.length≤70000:=by omega
      have wj:zW ((j:Int)+1)=j+1:=az (by omega) (by omega);simp only at hO;refine gO cR (j5 @av @L @hO @a7 @wj) tI ?_;refine gB ((j+1,lo++ [l],(O.set k.tO (.tok (lo.length+1))).set k.id (.cells 108 (Dy k e { d with sp:=sp,lo:=lo++ [l] } 0)))) (by(try dsimp only);exact le_eq (by rw[cf];simp[qo,cv])) ?_;try dsimp only
      exact⟨by omega,by simp[b5],g,G.WE l⟩
    ·have c0:¬b9 s=0:=by simpa using c0
     rw[g]at n;refine gO cR (j4 @hJ @u @Jf @c0) (j3 @F @P @bad) ?_;exact iC n.symm H.le
   ·have F:=RL.bad hb w;rw[g]at n;refine gO cR (j3 @hJ @u @Jf) @F ?_;refine ed ?_;intro O G;exact iC n.symm (AS.le_trans H.le G)
  ·have hJ:((j:Int)<e.t5.length)=False:=by simp;omega
   have J:e.t5.drop j= []:=drop_eq_nil_iff.2 (by omega);rw[J]at g;simp only[gZ]at g;rw[←g]at n;refine gO cR @hJ tI ?_;exact⟨.bI [],K,Wk.refl _,lR _,(sp,lo),n.symm,rfl,H⟩
variable {k:LK} {e:LE} {d:LD} {B τ:AS}
def eu (c:Nat) (n nt:Int):List Int→Int→Nat→List (List Int)→Except gD (List Int)
 |acc,last,_,[]=> .ok (acc++List.replicate (n+1-last).toNat (nt-1))
 |acc,last,i,r::rs=>bK (decide (last≤eW r c∧eW r c≤n+1∧(0<i∨eW r c=1))) 3 0 i (eu c n nt (acc++List.replicate (eW r c-last).toNat ((i:Int)-1)) (eW r c) (i+1) rs)
def Vk {n c:Nat}{l:List (List Int)}(h:nD n l) (j:c<n) {i:Nat}(g:i<l.length):∃r v,l[i]? =some r∧l.drop i=r::l.drop (i+1)∧r[c]? =some v∧(∃j:c<r.length,r[c]=v)∧eW r c=v∧0≤v∧v<4294967296:=by obtain⟨h1,o⟩:=h.2 l[i] (getElem_mem g);refine⟨l[i],l[i][c]'(by omega),getElem?_eq_getElem g,drop_eq_getElem_cons g,getElem?_eq_getElem (by omega),⟨by omega,rfl⟩,?_,o _ (getElem_mem _)⟩;rw[eW,getD_eq_getElem?_getD,getElem?_eq_getElem (by omega)];rfl
def LI.JO (h:LI k e d B τ) (c:Nat) (hc:c<5) (n:Nat) (hn:n≤65535):
 ad prog 168 [.ptr k.id 0,zI c,zI n] τ (RL (eu c n e.t0.length [] 1 0 e.t0) (fun v=>ah (.ao 3 (v.map aS) .aI (decide (v= []))) τ)) (TL (eu c n e.t0.length [] 1 0 e.t0) τ):=by
 have hm:=fun a t r σ=>lg a t r σ;obtain⟨X,O⟩:∃X,eu c n e.t0.length [] 1 0 e.t0=X:=⟨_,rfl⟩;rw[O];have q:=h.id;rw[cf]at q;simp only[cv]at q;have h0:=h.e.t0;have bc:=h0.1;refine ad.ob func168 ?_;refine gO (S:= [3]) aa tI tI ?_;refine aq.fy 7 3 [] true (by simp) (.inr ⟨by simp,rfl,rfl⟩) ?_;intro u H;have nk:¬k.id=u:=fun e'=>by rw[←e',q]at H;cases H
 have Y:¬u=k.id:=fun e'=>nk e'.symm;have F:∀m,AS.le τ (τ.set u (.tok m)):=fun m=>an H (lR _);have iC:∀ {f m},X= .error f→ ∃σ',AS.le σ' (τ.set u (.tok m))∧TL X τ (pQ f) σ':=fun {f m} hx=>⟨_,lR _,_,hx,rfl,F _⟩;refine gO aa (j2 @q @nk) tI ?_;refine aq.aQ (α:=(Nat)×(List Int)×(Nat)) ((0,[],1)) (fun⟨i,out,last⟩=>e.t0.length-i) (fun⟨i,out,last⟩=>i≤e.t0.length∧out.length+1=last∧last≤n+1∧eu c n e.t0.length out last i (e.t0.drop i)=X) [(0,?_),(1,?_),(2,?_),(6,?_),(18,?_),(19,?_)] (fun⟨i,out,last⟩=> [(20,zI i),(7,.ao 3 (out.map aS) (.tok u) (decide (out= []))),(8,zI last)]) (fun⟨i,out,last⟩=>τ.set u (.tok out.length)) ?_ ?_ ?_ ?_;rotate_left 6
 ·exact gF tI
 ·exact gT
 ·exact⟨by omega,rfl,by omega,O⟩
 intro x_ g;obtain⟨i,out,last⟩:=x_;try dsimp only at g⊢
 obtain⟨hi,a8,a9,o⟩:=g;simp only[eZ];by_cases af:i<e.t0.length
 ·obtain⟨r,v,l,am,a7,⟨E,w⟩,M,a6,a5⟩:=Vk h0 hc af;rw[am]at o;simp only[eu,M]at o;have K:((i:Int)<e.t0.length)=True:=by simp;omega
  have bad:=fun a σ=>ep a 0 i (by omega) (by omega) (by omega) (by omega) σ;have wi:zW ((i:Int)+1)=i+1:=az (by omega) (by omega);have wn:zW ((n:Int)+1)=n+1:=az (by omega) (by omega);have G:zW ((i:Int)-1)=i-1:=az (by omega) (by omega);rcases aw o with⟨c0,o⟩|⟨c0,o⟩
  ·simp only[decide_eq_true_eq]at c0;obtain⟨J,L,P⟩:=c0;obtain⟨V,rfl⟩:∃V:Nat,v=V:=⟨v.toNat,by omega⟩;have ws:zW ((V:Int)-last)=((V-last:Nat):Int):=by rw[show(V:Int)-last=((V-last:Nat):Int) by omega];exact az (by omega) (by omega)
   rw[show((V:Int)-last).toNat=V-last by omega]at o;have av:(0<i∧True)∨(¬0<i∧((V:Int)=1)=True):=by
    rcases Nat.eq_zero_or_pos i with h|h
    ·exact .inr ⟨by omega,eq_true (by omega)⟩
    ·exact .inl ⟨h,trivial⟩
   rcases av with⟨P,Q⟩|⟨P,Q⟩;all_goals
    refine gO aa (j2 (j7 K @l @uW.eq_1 @E @w @J @L) (j5 @P @Q @wn @ws @aF)) @hm ?_;refine aq.aQ (α:=(Nat)) (0) (fun y=>V-last-y) (fun y=>y≤V-last) [(0,?_),(1,?_),(2,?_),(6,?_),(8,?_),(9,?_),(10,?_),(11,?_),(18,?_),(19,?_),(20,?_),(21,?_),(22,?_),(23,?_),(24,?_),(25,?_),(26,?_),(27,?_),(28,?_),(29,?_),(30,?_),(31,?_),(32,?_),(33,?_),(34,?_),(35,?_),(36,?_),(37,?_),(38,?_),(39,?_),(40,?_),(41,?_),(42,?_),(43,?_),(44,?_),(45,?_),(46,?_),(48,?_),(49,?_),(50,?_)] (fun y=> [(51,zI y),(7,.ao 3 ((out++List.replicate y ((i:Int)-1)).map aS) (.tok u) (decide (out++List.replicate y ((i:Int)-1)= [])))]) (fun y=>τ.set u (.tok (out.length+y))) ?_ ?_ ?_ ?_;rotate_left 40
    ·exact gF tI
    ·exact gT
    ·exact Nat.zero_le _
    intro y g;try dsimp only at g⊢
    obtain hy:=g;simp only[eZ];by_cases I:y<V-last
    ·have j:((y:Int)<((V-last:Nat):Int))=True:=by simp;omega
     have T:zW ((y:Int)+1)=y+1:=az (by omega) (by omega);have ac:(out++List.replicate y ((i:Int)-1)).length≤70000:=by simp;omega
     refine gO aa (j3 @j @T @G) tI ?_;refine jC.mk (y+1) gM (gF (j2 (fun n (a:AV)=>replicate_succ' (n:=n) (a:=a)) @aF)) gT ?_;try dsimp only
     exact I
    ·have j:((y:Int)<((V-last:Nat):Int))=False:=by simp;omega
     obtain rfl:y=V-last:=by omega
     refine gO aa (j2 @j @wi) tI ?_;refine jC.mk ((i+1,out++List.replicate (V-last) ((i:Int)-1),V)) gM (gF @aF) (by(try dsimp only);exact le_eq (by simp)) ?_;try dsimp only
     exact⟨by omega,by simp;omega,by omega,o⟩
  ·have c0:¬((last:Int)≤v∧v≤n+1∧(0<i∨v=1)):=by simpa using c0
   by_cases J:(last:Int)≤v
   ·by_cases L:v≤n+1
    ·have P:¬0<i:=fun hh=>c0 ⟨J,L,.inl hh⟩;have Q:¬v=1:=fun hh=>c0 ⟨J,L,.inr hh⟩;refine gO aa (j2 (j7 K @l @uW.eq_1 @E @w @J @L) (j4 @P @Q @wn @aF)) @bad ?_;exact iC o
    ·refine gO aa (j2 (j7 K @l @uW.eq_1 @E @w @J @L) (j2 @wn @aF)) @bad ?_;exact iC o
   ·refine gO aa (j7 K @l @uW.eq_1 @E @w @J @aF) @bad ?_;exact iC o
 ·have K:((i:Int)<e.t0.length)=False:=by simp;omega
  have ap:e.t0.drop i= []:=drop_eq_nil_iff.2 (by omega);rw[ap]at o;simp only[eu]at o;have wn:zW ((n:Int)+1)=n+1:=az (by omega) (by omega);have ws:zW ((n:Int)+1-last)=((n+1-last:Nat):Int):=by rw[show(n:Int)+1-last=((n+1-last:Nat):Int) by omega];exact az (by omega) (by omega)
  have G:zW ((e.t0.length:Int)-1)=e.t0.length-1:=az (by omega) (by omega);rw[show((n:Int)+1-last).toNat=n+1-last by omega]at o;refine gO aa (j3 K @wn @ws) tI ?_;refine aq.aQ (α:=(Nat)) (0) (fun y=>n+1-last-y) (fun y=>y≤n+1-last) [(0,?_),(6,?_),(64,?_)] (fun y=> [(65,zI y),(7,.ao 3 ((out++List.replicate y ((e.t0.length:Int)-1)).map aS) (.tok u) (decide (out++List.replicate y ((e.t0.length:Int)-1)= [])))]) (fun y=>τ.set u (.tok (out.length+y))) ?_ ?_ ?_ ?_;rotate_left 3
  ·exact gF tI
  ·exact gT
  ·exact Nat.zero_le _
  intro y g;try dsimp only at g⊢
  obtain hy:=g;simp only[eZ];by_cases I:y<n+1-last
  ·have j:((y:Int)<((n+1-last:Nat):Int))=True:=by simp;omega
   have T:zW ((y:Int)+1)=y+1:=az (by omega) (by omega);have ac:(out++List.replicate y ((e.t0.length:Int)-1)).length≤70000:=by simp;omega
   refine gO aa (j6 @j @T @G @q @nk @Y) tI ?_;refine jC.mk (y+1) gM (gF (j2 (fun n (a:AV)=>replicate_succ' (n:=n) (a:=a)) @aF)) gT ?_;try dsimp only
   exact I
  ·have j:((y:Int)<((n+1-last:Nat):Int))=False:=by simp;omega
   obtain rfl:y=n+1-last:=by omega
   refine gO aa @j tI ?_;exact⟨.ao 3 ((out++List.replicate (n+1-last) ((e.t0.length:Int)-1)).map aS) .aI (decide (out++List.replicate (n+1-last) ((e.t0.length:Int)-1)= [])),τ,by simp,F _,_,o.symm,rfl,rfl⟩
abbrev mT:bW:=(.S 0 (.S 1 (.S 2 (.S 3 (.S 5 (.S 6 (.S 7 (.S 8 (.S 9 (.S 10 (.S 11 (.S 12 (.A 4 (.S 13 (.A 14 (.A 15 .D .Z) .Z)) (.A 14 (.A 4 (.S 13 (.A 15 .D .Z)) .Z) .Z))))))))))))))
def dg (S:List Nat):bH prog [(7,mT),(12,(.S 0 (.S 1 (.S 2 (.S 3 (.S 4 (.R 5 (.R 6 (.S 7 (.A 8 (.S 9 (.S 10 (.S 11 (.A 12 .D .Z)))) .Z))))))))))] S:=mixed
open Sg (fP b9 nh)
variable {k:LK} {e:LE} {d:LD} {B τ:AS}
def Aw (N B:zY) (nt:Int) (g:List Int) (i:Nat) (r:List Int):Except gD Fd:=
 bK (decide (eW r 0≤1)) 3 1 i (cA (kO N (eW r 1)) fun nm=>cA (iF B (eW r 2)) fun b=>bK (decide (b9 (nh b)=0)) (b9 (nh b)) 1 i
  (bK (eo (fP (nh b)) nt) 5 1 i (.ok ⟨nm,eW g i,fP (nh b),decide (eW r 0=1)⟩)))
def lP (N B:zY) (nt:Int) (g:List Int):List Fd→Nat→List (List Int)→Except gD (List Fd)
 |acc,_,[]=> .ok acc
 |acc,i,r::rs=>cA (Aw N B nt g i r) fun f=>lP N B nt g (acc++ [f]) (i+1) rs
def ky (e:LE):Except gD (List Fd):=
 bK (decide (e.t1= [])||decide (0<e.t0.length)) 5 1 0 (cA (eu 3 e.t1.length e.t0.length [] 1 0 e.t0) fun g=>lP e.N e.B e.t0.length g [] 0 e.t1)
def fO {α β:Type}(b:Bool) (e t r:Int) (x:Except gD α) (f:α→Except gD β):cA (bK b e t r x) f=bK b e t r (cA x f):=by cases b<;>rfl
def iI {α β γ:Type}(x:Except gD α) (f:α→Except gD β) (g:β→Except gD γ):cA (cA x f) g=cA x fun a=>cA (f a) g:=by cases x<;>rfl
def cL {α β:Type}(a:α) (f:α→Except gD β):cA (.ok a) f=f a:=rfl
def LI.X1 (h:LI k e d B τ) {i:Nat}{x:bP}(g:B i=some x):i≠k.id∧i≠k.tP∧i≠k.tO∧i≠k.tF∧i≠k.tM:=by obtain⟨f0,f1,f2,f3,f4⟩:=h.OO;refine⟨?_,?_,?_,?_,?_⟩<;>(rintro rfl;simp_all)
def LI.WH (h:LI k e d B τ) (t:Fd):LI k e { d with fs:=d.fs++ [t] } B ((τ.set k.tF (.tok (d.fs.length+1))).set k.id (.cells 108 (Dy k e { d with fs:=d.fs++ [t] } 0))):=by
 obtain⟨n1,n2,o,n,w,l,v,i,u,g⟩:=h.ne;refine h.mk' (AS.ak _ _ _) ?_ ?_ ?_ ?_ fun j q j2 j3 j4 j5=> ?_
 ·rw[AS.ae _ _ n1.symm,AS.ae _ _ l];exact h.tP
 ·rw[AS.ae _ _ n2.symm,AS.ae _ _ i];exact h.tO
 ·rw[AS.ae _ _ o.symm,AS.ak];simp
 ·rw[AS.ae _ _ n.symm,AS.ae _ _ g.symm];exact h.tM
 ·rw[AS.ae _ _ q,AS.ae _ _ j4]
def Vo {l:List (List Int)}(h:nD 3 l) {i:Nat}(j:i<l.length):∃a b c,l[i]? =some [a,b,c]∧l.drop i= [a,b,c]::l.drop (i+1)∧(0≤a∧a<4294967296)∧(0≤b∧b<4294967296)∧(0≤c∧c<4294967296):=by
 obtain⟨h1,g⟩:=h.2 l[i] (getElem_mem j)
 match n:l[i],h1,g with
 |[a,b,c],_,g=>exact⟨a,b,c,by rw[getElem?_eq_getElem j,n],by rw[drop_eq_getElem_cons j,n],g a (by simp),g b (by simp),g c (by simp)⟩
def BP (a b c:Int):uW [a,b,c]= .ao 3 [zI a,zI b,zI c] .aI false:=rfl
def nJ {c:Nat}{n nt:Int} :∀ {rs:List (List Int)}{acc:List Int}{last:Int}{i:Nat}{out:List Int},eu c n nt acc last i rs= .ok out→(acc.length:Int)+1=last→last≤n+1→(out.length:Int)=n
 |[],acc,last,i,out,h,h1,g=>by simp only[eu,Except.ok.injEq]at h;subst h;simp only[length_append,length_replicate];omega
 |r::rs,acc,last,i,out,h,h1,g=>by
  simp only[eu]at h;rcases aw h with⟨c0,h⟩|⟨_,h⟩
  ·simp only[decide_eq_true_eq]at c0;refine nJ h ?_ (by omega);simp only[length_append,length_replicate];omega
  ·cases h
def WT (k:LK) (e:LE) (d:LD) (B:AS) (v:List Fd) (r:AV) (g:AS):Prop:=r= .bI []∧LI k e { d with fs:=v } B g
def LI.fields (h:LI k e d B τ) (hs:d.fs= []) (nt:Nat) (be:e.t0.length=nt) (bc:∀σ K,jz prog σ 22 d.ty K=K (zI nt)):
 ad prog 110 [.ptr k.id 0] τ (RL (ky e) (WT k e d B)) (TL (ky e) B):=by
 have hm:=fun a t r σ=>lg a t r σ;obtain⟨X,g⟩:∃X,ky e=X:=⟨_,rfl⟩;rw[g];unfold ky at g;have ac:=h.id;rw[cf]at ac;simp only[cv]at ac;have iC:∀ {f τ'},X= .error f→AS.le B τ'→ ∃σ',AS.le σ' τ'∧TL X B (pQ f) σ':=fun {f τ'} hx hle=>⟨τ',lR _,_,hx,rfl,hle⟩;have h1:=h.e.t1;have eB:=h.e.B;have b0:=fun σ=>ep 5 1 0 (by omega) (by omega) (by omega) (by omega) σ;have a0:=h.JO 3 (by omega) e.t1.length h1.1;have hc:(e.t1= []∧True)∨(¬e.t1= []∧(0<nt)=True)∨(¬e.t1= []∧ ¬0<nt):=by
  by_cases I:e.t1= []
  ·exact .inl ⟨I,trivial⟩
  ·by_cases c2:0<nt
   ·exact .inr (.inl ⟨I,eq_true c2⟩)
   ·exact .inr (.inr ⟨I,c2⟩)
 rw[be]at g a0;refine ad.ob func110 ?_;refine gO (S:= [1]) dg @ac tI ?_;try apply aq.seq
 refine Sg.xC (α:=Unit) (fun _ =>cA (eu 3 e.t1.length nt [] 1 0 e.t0) (fun q=>lP e.N e.B nt q [] 0 e.t1)=X) (fun _ => [(0,.ptr k.id 0),(2,.ao 44 (e.t1.map uW) .aI (decide (e.t1= [])))]) (fun _ =>τ) ?_ ?_
 ·rcases hc with⟨I,c2⟩|⟨I,c2⟩|⟨I,c2⟩
  ·have af:cA (eu 3 e.t1.length nt [] 1 0 e.t0) (fun q=>lP e.N e.B nt q [] 0 e.t1)=X:=by rw[←g];simp[bK,I]
   generalize e.t1=T1 at*;subst I;refine gO dg tI @hm ?_;refine fK.mk (()) (gF tI) gT ?_;try dsimp only
   exact af
  ·have af:cA (eu 3 e.t1.length nt [] 1 0 e.t0) (fun q=>lP e.N e.B nt q [] 0 e.t1)=X:=by rw[←g];simp[bK,I,of_eq_true c2]
   generalize hP:cA (eu 3 e.t1.length nt [] 1 0 e.t0) (fun q=>lP e.N e.B nt q [] 0 e.t1)=P at*;refine uK (dg []) @bc (j3 @ac @I @c2) @hm (k:= ?_);refine fK.mk (()) (gF tI) gT ?_;try dsimp only
   exact af
  ·have af:X= .error (mF 5 1 0):=by rw[←g];simp[bK,I,c2]
   refine uK (dg []) @bc (j3 @ac @I @c2) @b0 (k:= ?_);exact iC af h.le
 ·intro _ g;rcases aG g with⟨q,hO,g⟩|⟨f,hO,g⟩
  ·have L:=RL.ok a0 hO;have ea:=nJ hO (by simp) (by omega);refine gO dg tI @L ?_;obtain⟨Y,hY⟩:∃Y,lP e.N e.B nt q [] 0 e.t1=Y:=⟨_,rfl⟩;rw[hY]at g;refine aq.aQ (α:=(Nat)×(List Fd)×(AS)) ((0,[],τ)) (fun⟨i,fs,H⟩=>e.t1.length-i) (fun⟨i,fs,H⟩=>i≤e.t1.length∧fs.length=i∧lP e.N e.B nt q fs i (e.t1.drop i)=Y∧LI k e { d with fs:=fs } B H) [(0,?_),(3,?_),(33,?_),(34,?_)] (fun⟨i,fs,H⟩=> [(35,zI i)]) (fun⟨i,fs,H⟩=>H) ?_ ?_ ?_ ?_;rotate_left 4
   ·exact gF tI
   ·exact gT
   ·exact⟨by omega,rfl,hY,by rw[←hs];exact h⟩
   intro x_ a9;obtain⟨i,fs,H⟩:=x_;try dsimp only at a9⊢
   obtain⟨hi,ch,l,G⟩:=a9;simp only[eZ];by_cases cd:i<e.t1.length
   ·obtain⟨a,b,c,J,ci,ha,hb,ec⟩:=Vo h1 cd;have ei:=h1.1;rw[ci]at l;simp only[lP,Aw,eW,getD_cons_zero,getD_cons_succ]at l;have hI:((i:Int)<e.t1.length)=True:=by simp;omega
    have T:i<q.length:=by omega
    have y:q[i]? =some q[i]:=getElem?_eq_getElem T;have ck:q.getD i 0=q[i]:=by rw[getD_eq_getElem?_getD,y];rfl
    rw[ck]at l;obtain⟨o,M⟩:∃o,q[i]=o:=⟨_,rfl⟩;rw[M]at y l;have bad:=fun a σ=>ep a 1 i (by omega) (by omega) (by omega) (by omega) σ;have wi:zW ((i:Int)+1)=i+1:=az (by omega) (by omega);have bf:=G.name b hb.1 hb.2;have a2:=G.yx c;simp only[fO,iI,cL]at l;rcases aw l with⟨c0,l⟩|⟨c0,l⟩
    ·have c0:a≤1:=by simpa using c0
     rcases aG l with⟨nm,hN,l⟩|⟨f,hN,l⟩
     ·have Q:=RL.ok bf hN;have O:=fun j x (hj:H j=none)=>RL.ok ((G.own (b:=x) hj).name b hb.1 hb.2) hN;refine gO (S:= [7]) dg (j4 hI @J @BP @c0) @hm ?_;try apply aq.seq
      refine HV (α:=Nat) (fun v=>H v=none) (fun v=> [(0,.ptr k.id 0),(3,.ao 3 (q.map aS) .aI (decide (q= []))),(4,zI i),(5,uW [a,b,c]),(6,.ptr v 0),(33,.ao 44 (e.t1.map uW) .aI (decide (e.t1= []))),(34,zI e.t1.length),(35,zI i)])
       (fun v=>H.set v (.cells 56 [zS nm,zI o,zI 0,zI 0,zI 0,zB false,.sc (.bool (decide (a=1)))])) (fun _ _ =>rfl) ?_ ?_
      ·(((with_reducible apply dX 7 mT);refine dY mixed ?_);simp-implicitDefEqProofs [T,M,BP,aF])
       repeat' (first
        |(with_reducible apply j2)
        |(intro id6 w;try simp-implicitDefEqProofs [y,T,M,BP,aF])
        |(refine ag.ay Q ?_;try simp-implicitDefEqProofs)
        |(refine ag.ay (O _ _ (by assumption)) ?_;try simp-implicitDefEqProofs))
       all_goals
        refine fK.mk (id6) (gF tI) gT ?_;try dsimp only
        exact(by assumption)
      ·intro id6 w;have h3:=G.own (b:= .cells 56 [zS nm,zI o,zI 0,zI 0,zI 0,zB false,.sc (.bool (decide (a=1)))]) w;have E:AS.le B (B.set id6 (.cells 56 [zS nm,zI o,zI 0,zI 0,zI 0,zB false,.sc (.bool (decide (a=1)))])):=an (G.mD w) (lR _);have k6:(B.set id6 (.cells 56 [zS nm,zI o,zI 0,zI 0,zI 0,zB false,.sc (.bool (decide (a=1)))])) id6=some (.cells 56 [zS nm,zI o,zI 0,zI 0,zI 0,zB false,.sc (.bool (decide (a=1)))]):=AS.ak _ _ _;generalize (B.set id6 (.cells 56 [zS nm,zI o,zI 0,zI 0,zI 0,zB false,.sc (.bool (decide (a=1)))]))=A at*;generalize (H.set id6 (.cells 56 [zS nm,zI o,zI 0,zI 0,zI 0,zB false,.sc (.bool (decide (a=1)))]))=τ2 at*;have a2:=h3.yx c;rcases aG l with⟨bb,am,l⟩|⟨f,am,l⟩
       ·have a3:=RL.ok a2 am;have c7:=qz am;have hg:=fun σ=>Sg.CH bb .aI false (by simp) (by omega) σ;generalize nh bb=s at hg l;generalize fP s=t at hg l;simp only[Sg.aC]at hg;refine gO dg @BP (j2 @a3 @hg) ?_;intro F V;have h4:=h3.own (b:= .cells 49 (cF t).cells) V;have k7:(A.set F (.cells 49 (cF t).cells)) F=some (.cells 49 (cF t).cells):=AS.ak _ _ _;have n:AS.le A (A.set F (.cells 49 (cF t).cells)):=an (h3.mD V) (lR _);have b6:id6≠F:=by rintro rfl;rw[h3.mD V]at k6;cases k6
        simp only[Sg.aC,aR]at h4 k7 n;generalize (A.set F (.cells 49 [zI t.kind,zI t.index,zI t.bT,.sc (.bool t.ref)]))=A2 at*;generalize (τ2.set F (.cells 49 [zI t.kind,zI t.index,zI t.bT,.sc (.bool t.ref)]))=τ3 at*;have cc:=h4.le _ _ (n _ _ k6);have a7:=h4.le _ _ k7;have a1:=h4.MU t 1 i (by omega) (by omega) (by omega);rw[be]at a1;rcases aw l with⟨c5,l⟩|⟨c5,l⟩
        ·have c5:b9 s=0:=by simpa using c5
         rcases aw l with⟨c6,l⟩|⟨c6,l⟩
         ·have u:=RL.ok a1 (v:=()) (by simp[bK,c6]);simp only[Sg.aC]at u;have a8:=n _ _ k6;obtain⟨m0,_,_,m3,_⟩:=h4.X1 a8;have h5:=(h4.wr (b:= .cells 56 (pR ⟨nm,o,t,decide (a=1)⟩).cells) a8);have h6:=h5.WH ⟨nm,o,t,decide (a=1)⟩;have ab:=h4.id;have hF:=h4.tF;have a6:=h4.ne.2.2.1;have d5:=a6.symm;have cb:=m0.symm;have ca:=m3.symm;have d4:=b6.symm;have eb:fs.length≤70000:=by omega
          rw[cf]at ab;simp only[cv]at ab hF;simp only[gy,aR]at h5 h6;have cl:B id6=none:=G.mD w;refine gO dg (j2 (j7 @c5 @a7 @cc @ab @hF @a6 @cb) (j2 @ca @wi)) (j2 @hm @u) ?_;refine gB ((i+1,fs++ [⟨nm,o,t,decide (a=1)⟩],((τ3.set id6 (.cells 56 (pR ⟨nm,o,t,decide (a=1)⟩).cells)).set k.tF (.tok (fs.length+1))).set k.id (.cells 108 (Dy k e { d with fs:=fs++ [⟨nm,o,t,decide (a=1)⟩] } 0)))) (by(try dsimp only);exact le_eq (by rw[cf];simp[gy,cv])) ?_;try dsimp only
          exact⟨by omega,by simp[ch],l,h6.drop (AS.aj (AS.le_trans E n) cl)⟩
         ·have u:=RL.bad a1 (e:=mF 5 1 i) (by simp[bK,c6]);rw[l]at g;simp only[Sg.aC]at u;refine gO dg (j2 @c5 @a7) (j2 @hm @u) ?_;refine ed ?_;intro τ5 h5;exact iC g.symm (AS.le_trans (AS.le_trans E (AS.le_trans n h4.le)) h5)
        ·have c5:¬b9 s=0:=by simpa using c5
         rw[l]at g;refine gO dg @c5 @bad ?_;exact iC g.symm (AS.le_trans E (AS.le_trans n h4.le))
       ·have a3:=RL.bad a2 am;rw[l]at g;refine gO dg @BP @a3 ?_;refine ed ?_;intro τ5 h5;exact iC g.symm (AS.le_trans (AS.le_trans E h3.le) h5)
     ·have Q:=RL.bad bf hN;rw[l]at g;refine gO (S:= [7]) dg (j4 hI @J @BP @c0) @hm ?_;try apply aq.seq
      have O:=fun j x (hj:H j=none)=>RL.bad ((G.own (b:=x) hj).name b hb.1 hb.2) hN
      (((with_reducible apply dX 7 mT);refine dY mixed ?_);simp-implicitDefEqProofs [T,M,aF])
      repeat' (first
       |(with_reducible apply j2)
       |(intro id6 w;try simp-implicitDefEqProofs [y,T,M,BP,aF])
       |(refine ag.DG Q ?_;intro τ2 h3;try simp-implicitDefEqProofs)
       |(refine ag.DG (O _ _ (by assumption)) ?_;intro τ2 h3;try simp-implicitDefEqProofs))
      all_goals first
       |exact iC g.symm (AS.le_trans G.le h3)
       |exact iC g.symm (AS.le_trans (AS.le_trans G.le (an (by assumption) (lR _))) h3)
    ·have c0:¬a≤1:=by simpa using c0
     rw[l]at g;refine gO dg (j4 hI @J @BP @c0) @bad ?_;exact iC g.symm G.le
   ·have hI:((i:Int)<e.t1.length)=False:=by simp;omega
    have cj:e.t1.drop i= []:=drop_eq_nil_iff.2 (by omega);rw[cj]at l;simp only[lP]at l;rw[←l]at g;refine gO dg hI tI ?_;exact⟨.bI [],H,Wk.refl _,lR _,fs,g.symm,rfl,G⟩
  ·have L:=RL.bad a0 hO;refine gO dg tI @L ?_;refine ed ?_;intro τ2 G;exact iC g (AS.le_trans h.le G)
end Im
end Go.Proofs.YtknalmoackcpbaaGreat
