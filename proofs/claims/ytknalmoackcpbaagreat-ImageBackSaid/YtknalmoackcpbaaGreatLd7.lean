/- Own. -/
import Derived.Test.YtknalmoackcpbaaGreatRowsB
set_option maxRecDepth 100000
set_option maxHeartbeats 3200000
set_option linter.all false
namespace Go.Proofs.YtknalmoackcpbaaGreat
namespace Im
open Go Go.AW Tryz
abbrev eR:b7:=(.step 0 (.step 1 (.step 4 (.step 5 (.step 7 (.read 2 (.alt 3 (.step 11 (.read 6 (.read 8 (.step 9 (.alt 10 (.alt 12 (.step 13 (.alt 14 .done .none)) .none) .none))))) (.alt 6 (.alt 3 (.step 11 (.read 8 (.step 9 (.alt 10 (.alt 12 (.step 13 (.alt 14 .done .none)) .none) .none)))) (.alt 8 (.step 9 (.alt 3 (.step 11 (.alt 10 (.alt 12 (.step 13 (.alt 14 .done .none)) .none) .none)) .none)) .none)) (.alt 8 (.alt 3 (.step 11 (.read 6 (.step 9 (.alt 10 (.alt 12 (.step 13 (.alt 14 .done .none)) .none) .none)))) (.alt 6 (.step 9 (.alt 3 (.step 11 (.alt 10 (.alt 12 (.step 13 (.alt 14 .done .none)) .none) .none)) .none)) .none)) .none)))))))))
abbrev dy:b7:=(.step 0 (.step 1 (.step 4 (.step 5 (.step 7 (.read 2 (.alt 3 (.step 11 (.read 6 (.read 8 (.step 9 (.alt 10 (.alt 12 (.step 13 (.alt 14 .done .none)) .none) .none))))) (.alt 6 (.alt 3 (.step 11 (.read 8 (.step 9 (.alt 10 (.alt 12 (.step 13 (.alt 14 .done .none)) .none) .none)))) (.alt 8 (.step 9 (.alt 3 (.step 11 (.alt 10 (.alt 12 (.step 13 (.alt 14 .done .none)) .none) .none)) .none)) .none)) (.alt 8 (.alt 3 (.step 11 (.read 6 (.step 9 (.alt 10 (.alt 12 (.step 13 (.alt 14 .done .none)) .none) .none)))) (.alt 6 (.step 9 (.alt 3 (.step 11 (.alt 10 (.alt 12 (.step 13 (.alt 14 .done .none)) .none) .none)) .none)) .none)) .none)))))))))
theorem vM (S:List Nat):aH prog [] S:=mixed
theorem nQ (S:List Nat):aH prog [(5,dy),(6,dy)] S:=mixed
open Rg (Cl ic aW)
open Bd (R6 dz s8 cH cE)
def lq (P:List Int) (a:Int):Option Int:=(P.findIdx? (fun y=>decide (y=a))).map fun k=>(k:Int)
theorem wZ (P:List Int) (o:cL) (nl:Bool) (x:Int) (q:P.Pairwise (· < ·)) (hl:P.length≤1000000) (σ:AS):
 aa prog 254 [.an 3 (P.map aV) o nl,.sc (.int .i64 x)] σ (fun r σ'=> ∃v,lq P x=some v∧ao (.sc (.int .i64 v)) σ r σ') (fun p σ'=>lq P x=none∧ao (s8 12) σ p σ'):=by
 obtain⟨p,l,h⟩:=Cd.Nx P x q;have i:=fun σ=>Cd.NI P x o nl p l hl h σ;have n:=Cd.Fu P x q p h;have g:=fun σ=>cH 12 σ;have j:=fun σ=>cE 12 σ;unfold lq;rw[n];refine aa.ob func254 ?_;by_cases u:P[p]? =some x
 ·exact gE vM @u (j2 @i @g)
 ·refine gO vM @u (j2 @i @j) ?_;exact⟨σ,lR _,rfl,rfl⟩
theorem gu {P:List Int}{o:cL}{nl:Bool}{x v:Int}(h:lq P x=some v) (i:P.Pairwise (· < ·)) (hl:P.length≤1000000) (σ:AS):
 aa prog 254 [.an 3 (P.map aV) o nl,.sc (.int .i64 x)] σ (ao (.sc (.int .i64 v)) σ) No:=
 (wZ P o nl x i hl σ).mono (fun r σ' j=>by obtain⟨n,h1,l⟩:=j;rw[h]at h1;cases h1;exact l) (fun p σ' g=>by rw[h]at g;cases g.1)
theorem nM {P:List Int}{o:cL}{nl:Bool}{x:Int}(h:lq P x=none) (g:P.Pairwise (· < ·)) (hl:P.length≤1000000) (σ:AS):
 aa prog 254 [.an 3 (P.map aV) o nl,.sc (.int .i64 x)] σ No (ao (s8 12) σ):=
 (wZ P o nl x g hl σ).mono (fun r σ' i=>by obtain⟨l,h1,n⟩:=i;rw[h]at h1;cases h1) (fun p σ' j=>j.2)
theorem LP {P:List Int}{x v:Int}(h:lq P x=some v):0≤v∧v<P.length:=by
 unfold lq at h;cases hf:P.findIdx? (fun y=>decide (y=x))with
 |none=>rw[hf]at h;cases h
 |some k=>rw[hf]at h;simp at h;have:=(List.findIdx?_eq_some_iff_getElem.1 hf).1;omega
theorem rD (j i:Nat) (σ:AS) (K:AS→Prop) (h:K σ):bS prog 253 [.ptr j 0,.ptr i 0] σ none K:=by
 refine bS.of func253 rfl rfl (by simp[ntmps253]) (by simp[ntmps253]) ?_;refine br.sp rfl (il.mS (by simp[ntmps253]) underlying316 trivial (by kernel_rfl) rfl ?_);refine br.rest ?_;have g:aw prog 316= .sc (.int .i64 0):=by kernel_rfl
 simp-implicitDefEqProofs [g,ntmps253];refine gO vM tI tI ?_;exact h
def FO:Cl:=⟨0,0,0,0,0,0,0,0,0,false⟩
theorem nh (h g:Nat) (e:Int) (x:List AV) (l:AV) (σ:AS) (K:AS→Prop) (o:x.length=10) (u:σ h=some (.cells 158 x)) (q:σ g=some (.cells 31 [l])) (i:h≠g)
 (j:K ((σ.set h (.cells 158 (ic FO).cells)).set g (.cells 31 [.sc (.int .i64 e)]))):
 bS prog 253 [.ptr h 0,.ptr g 0] σ (some (s8 e)) K:=by
 match x,o with
 |[H,G,F,E,D,A,y,w,v,n],_ =>
 refine bS.of func253 rfl rfl (by simp[ntmps253]) (by simp[ntmps253]) ?_;refine br.sp rfl (il.oR (by simp[ntmps253]) underlying316 trivial rfl ?_);refine br.rest ?_;simp only[aW,FO,aQ]at j;simp-implicitDefEqProofs [ntmps253];refine gO vM (j5 @s8.eq_1 @recV.eq_1 @u @q @i.symm) tI ?_;exact j
def wg (r:R6):Prop:=1≤r.kd∧r.kd≤4∧0<r.tl∧0<r.hl∧0≤r.ta∧0≤r.ha
def zI (r:R6):Prop:=r.ta≤65535∧r.tl≤65535∧r.ha≤65535∧r.hl≤65535
instance (r:R6):Decidable (wg r):=by unfold wg;infer_instance
instance (r:R6):Decidable (zI r):=by unfold zI;infer_instance
def sj {α β:Type}(x:Option α) (f:α→Option β):Option β:=match x with|none=>none|some a=>f a
def gm (P:List Int) (r:R6):Option Cl:=
 if ¬wg r then none else if ¬zI r then none else
 sj (lq P r.ta) fun a=>sj (lq P (r.ta+r.tl)) fun b=>sj (lq P r.ha) fun c=>sj (lq P (r.ha+r.hl)) fun d=>
 if r.kd=2 then sj (lq P r.ex) fun f=>if f<P.length-1 then some ⟨r.kd,a,b,c,d,f,0,0,0,false⟩ else none
 else some ⟨r.kd,a,b,c,d,-1,0,0,0,false⟩
def sa (x:Option Cl):AV:=match x with
 |some c=> .bQ [ic c,.sc (.int .i64 0)]
 |none=> .bQ [ic FO,.sc (.int .i64 12)]
theorem Du (P:List Int) (o:cL) (nl:Bool) (r:R6) (V:P.Pairwise (· < ·)) (hl:P.length≤1000000) (σ:AS):
 aa prog 216 [.an 3 (P.map aV) o nl,dz r] σ (ao (sa (gm P r)) σ) No:=by
 have hk:=fun σ=>zd r.kd σ;obtain⟨U,Y⟩:∃U,decide (1≤r.kd∧r.kd≤4)=U:=⟨_,rfl⟩;rw[Y]at hk;have L:=fun σ=>cH 12 σ;have O:=fun σ=>cE 12 σ;refine aa.jj func216 rfl rfl (by simp[ntmps216]) (fun G1=> ?_);simp only[dz];apply lg.seq;have a4:f216.ntmps=95:=rfl;simp-implicitDefEqProofs only[a4];refine gO nQ tI tI ?_;intro id3 am;intro n;intro q al;have i:=aA q;intro id5;intro l I af;have g:=aA l;have J:=aA I;obtain⟨A,a8,G,ap,Q,bs,H⟩:=Nt σ (.cells 221 [.sc (.int .i64 r.kd),.sc (.int .i64 r.ta),.sc (.int .i64 r.tl),.sc (.int .i64 r.ha),.sc (.int .i64 r.hl),.sc (.int .i64 r.ex)]) (.cells 158 [.sc (.int .i64 0),.sc (.int .i64 0),.sc (.int .i64 0),.sc (.int .i64 0),.sc (.int .i64 0),.sc (.int .i64 0),.sc (.int .i64 0),.sc (.int .i64 0),.sc (.int .i64 0),.sc (.bool false)]) (.cells 31 [.sc (.int .i64 0)]) am al af i J g;simp only[a8];clear a8;apply lg.defer (by simp) (by decide+kernel);intro D;simp-implicitDefEqProofs only[a4];have hX:¬wg r∨(wg r∧ ¬zI r)∨(wg r∧zI r):=by
  by_cases M:wg r
  ·by_cases X:zI r
   ·exact .inr (.inr ⟨M,X⟩)
   ·exact .inr (.inl ⟨M,X⟩)
  ·exact .inl M
 rcases hX with M|⟨M,X⟩|⟨M,X⟩
 ·have hS:gm P r=none:=by rw[gm,if_pos M]
  rw[hS];unfold wg at M;have hc:(U=false∧True∧True∧True∧True)∨(U=true∧(0<r.tl)=False∧True∧True∧True)∨(U=true∧(0<r.tl)=True∧(0<r.hl)=False∧True∧True)∨
   (U=true∧(0<r.tl)=True∧(0<r.hl)=True∧(0≤r.ta)=False∧True)∨(U=true∧(0<r.tl)=True∧(0<r.hl)=True∧(0≤r.ta)=True∧(0≤r.ha)=False):=by
   cases U
   ·exact .inl ⟨rfl,trivial,trivial,trivial,trivial⟩
   ·simp only[decide_eq_true_eq]at Y;simp only[eq_iff_iff,iff_true,iff_false,and_true,true_and,Bool.true_eq_false,false_or];omega
  rcases hc with⟨d1,d2,d3,d4,d5⟩|⟨d1,d2,d3,d4,d5⟩|⟨d1,d2,d3,d4,d5⟩|⟨d1,d2,d3,d4,d5⟩|⟨d1,d2,d3,d4,d5⟩;all_goals
   subst d1;refine gO nQ (j5 @d2 @d3 @d4 @d5 @G) (j2 @hk @O) ?_;refine nh n id5 12 _ _ _ _ (by rfl) ap Q g ?_;simp-implicitDefEqProofs [g,sa,aW,FO];exact H _ fun j Z u v y w=>by simp[AS.set,u,v,w]
 ·have hS:gm P r=none:=by rw[gm,if_neg (by simpa using M),if_pos X]
  rw[hS];unfold wg at M;unfold zI at X;obtain⟨k1,k2,d2,d3,d4,d5⟩:=M;obtain rfl:U=true:=by rw[←Y];simp[k1,k2]
  have hc:((r.ta≤65535)=False∧True∧True∧True)∨((r.ta≤65535)=True∧(r.tl≤65535)=False∧True∧True)∨((r.ta≤65535)=True∧(r.tl≤65535)=True∧(r.ha≤65535)=False∧True)∨
   ((r.ta≤65535)=True∧(r.tl≤65535)=True∧(r.ha≤65535)=True∧(r.hl≤65535)=False):=by
   simp only[eq_iff_iff,iff_true,iff_false,and_true];omega
  rcases hc with⟨q1,q2,q3,q4⟩|⟨q1,q2,q3,q4⟩|⟨q1,q2,q3,q4⟩|⟨q1,q2,q3,q4⟩;all_goals
   refine gO (S:= [3]) nQ (j5 @d2 @d3 @d4 @d5 @G) (j2 @hk @L) ?_;refine gO nQ (j5 @q1 @q2 @q3 @q4 @G) @O ?_;refine nh n id5 12 _ _ _ _ (by rfl) ap Q g ?_;simp-implicitDefEqProofs [g,sa,aW,FO];exact H _ fun j Z u v y w=>by simp[AS.set,u,v,w]
 ·have hS:gm P r=sj (lq P r.ta) fun a=>sj (lq P (r.ta+r.tl)) fun b=>sj (lq P r.ha) fun c=>sj (lq P (r.ha+r.hl)) fun d=>
   if r.kd=2 then sj (lq P r.ex) fun f=>if f<P.length-1 then some ⟨r.kd,a,b,c,d,f,0,0,0,false⟩ else none
   else some ⟨r.kd,a,b,c,d,-1,0,0,0,false⟩:=by rw[gm,if_neg (by simpa using M),if_neg (by simpa using X)]
  rw[hS];unfold wg at M;unfold zI at X;obtain⟨k1,k2,d2,d3,d4,d5⟩:=M;obtain⟨q1,q2,q3,q4⟩:=X;obtain rfl:U=true:=by rw[←Y];simp[k1,k2]
  have w1:IntKind.i64.wrap (r.ta+r.tl)=r.ta+r.tl:=ay (by omega) (by omega);have w2:IntKind.i64.wrap (r.ha+r.hl)=r.ha+r.hl:=ay (by omega) (by omega);refine gO (S:= [5]) nQ (j2 (j7 @d2 @d3 @d4 @d5 @q1 @q2 @q3) (j3 @q4 @G @ap)) (j2 @hk @L) ?_;try apply ae.seq
  have fin:∀(S:AS) (x:List AV) (hx:x.length=10) (K:AS→Prop),S n=some (.cells 158 x)→S id5=some (.cells 31 [.sc (.int .i64 0)])→
   K ((S.set n (.cells 158 (ic FO).cells)).set id5 (.cells 31 [.sc (.int .i64 12)]))→bS prog 253 [.ptr n 0,.ptr id5 0] S (some (s8 12)) K:=fun S x hx K g1 g2 g3=>nh n id5 12 x _ S K hx g1 g2 g g3
  have hle:∀(x y:List AV) S',(∀j,j≠id3→j≠n→j≠id5→S' j=A j)→AS.le σ S':=fun x y S' h=>H _ fun j Z u v y w=>by rw[h j Z u v];exact w
  cases e1:lq P r.ta with
  |none=>
   simp only[sj];have i1:=fun σ=>nM (o:=o) (nl:=nl) e1 V hl σ
   (((with_reducible apply ae.uh (id:=5) (t:=eR));(exact mixed);kernel_rfl;kernel_rfl;(repeat (with_reducible first|apply kx.then|apply kx.block|(apply kx.zc;decide+kernel))));simp-implicitDefEqProofs [w1,i,G])
   repeat' (first
    |(with_reducible apply j2)
    |(refine ag.gp (i1 _) ?_;try simp-implicitDefEqProofs))
   all_goals
    refine fin _ _ ?_ _ (AS.aj _ _ _) ((AS.ad _ _ l).trans Q) ?_
    ·rfl
    simp-implicitDefEqProofs [g,sa,aW,FO];exact H _ fun j Z u v y w=>by simp[AS.set,u,v,w]
  |some v1=>
  have i1:=fun σ=>gu (o:=o) (nl:=nl) e1 V hl σ;cases e2:lq P (r.ta+r.tl)with
  |none=>
   simp only[sj];have i2:=fun σ=>nM (o:=o) (nl:=nl) e2 V hl σ
   (((with_reducible apply ae.uh (id:=5) (t:=eR));(exact mixed);kernel_rfl;kernel_rfl;(repeat (with_reducible first|apply kx.then|apply kx.block|(apply kx.zc;decide+kernel))));simp-implicitDefEqProofs [w1,i,G])
   repeat' (first
    |(with_reducible apply j2)
    |(refine ag.aC (i1 _) ?_;try simp-implicitDefEqProofs [w1,i,G])
    |(refine ag.gp (i2 _) ?_;try simp-implicitDefEqProofs))
   all_goals
    refine fin _ _ ?_ _ (AS.aj _ _ _) ((AS.ad _ _ l).trans Q) ?_
    ·rfl
    simp-implicitDefEqProofs [g,sa,aW,FO];exact H _ fun j Z u v y w=>by simp[AS.set,u,v,w]
  |some v2=>
  have i2:=fun σ=>gu (o:=o) (nl:=nl) e2 V hl σ;simp only[sj];refine Sg.xk (α:=Unit) (fun _ =>True) (fun _ => [(0,.an 3 (P.map aV) o nl),(3,.ptr id3 0),(4,.ptr n 0),(5,.ptr id5 0)]) (fun _ =>A.set n (.cells 158 [.sc (.int .i64 r.kd),.sc (.int .i64 v1),.sc (.int .i64 v2),.sc (.int .i64 0),.sc (.int .i64 0),.sc (.int .i64 (-1)),.sc (.int .i64 0),.sc (.int .i64 0),.sc (.int .i64 0),.sc (.bool false)])) ?_ ?_
  ·(((with_reducible apply ae.uh (id:=5) (t:=eR));(exact mixed);kernel_rfl;kernel_rfl;(repeat (with_reducible first|apply kx.then|apply kx.block|(apply kx.zc;decide+kernel))));simp-implicitDefEqProofs [w1,i,G])
   repeat' (first
    |(with_reducible apply j2)
    |(refine ag.aC (i1 _) ?_;try simp-implicitDefEqProofs [w1,i,G])
    |(refine ag.aC (i2 _) ?_;try simp-implicitDefEqProofs))
   all_goals
    refine fV.mk (()) (gF tI) (by(try dsimp only);exact lR _) ?_;try dsimp only
  intro _ _;have T:(A.set n (.cells 158 [.sc (.int .i64 r.kd),.sc (.int .i64 v1),.sc (.int .i64 v2),.sc (.int .i64 0),.sc (.int .i64 0),.sc (.int .i64 (-1)),.sc (.int .i64 0),.sc (.int .i64 0),.sc (.int .i64 0),.sc (.bool false)])) id3=some (.cells 221 [.sc (.int .i64 r.kd),.sc (.int .i64 r.ta),.sc (.int .i64 r.tl),.sc (.int .i64 r.ha),.sc (.int .i64 r.hl),.sc (.int .i64 r.ex)]):=(AS.ad _ _ i).trans G;have b4:(A.set n (.cells 158 [.sc (.int .i64 r.kd),.sc (.int .i64 v1),.sc (.int .i64 v2),.sc (.int .i64 0),.sc (.int .i64 0),.sc (.int .i64 (-1)),.sc (.int .i64 0),.sc (.int .i64 0),.sc (.int .i64 0),.sc (.bool false)])) n=some (.cells 158 [.sc (.int .i64 r.kd),.sc (.int .i64 v1),.sc (.int .i64 v2),.sc (.int .i64 0),.sc (.int .i64 0),.sc (.int .i64 (-1)),.sc (.int .i64 0),.sc (.int .i64 0),.sc (.int .i64 0),.sc (.bool false)]):=AS.aj _ _ _;have b5:(A.set n (.cells 158 [.sc (.int .i64 r.kd),.sc (.int .i64 v1),.sc (.int .i64 v2),.sc (.int .i64 0),.sc (.int .i64 0),.sc (.int .i64 (-1)),.sc (.int .i64 0),.sc (.int .i64 0),.sc (.int .i64 0),.sc (.bool false)])) id5=some (.cells 31 [.sc (.int .i64 0)]):=(AS.ad _ _ l).trans Q;have F:∀(S':AS),(∀j,j≠n→j≠id5→ ∀y,(A.set n (.cells 158 [.sc (.int .i64 r.kd),.sc (.int .i64 v1),.sc (.int .i64 v2),.sc (.int .i64 0),.sc (.int .i64 0),.sc (.int .i64 (-1)),.sc (.int .i64 0),.sc (.int .i64 0),.sc (.int .i64 0),.sc (.bool false)])) j=some y→S' j=some y)→AS.le σ S':=fun S' h=>H _ fun j Z u v y w=>h j u v y (by rw[AS.ad _ _ u];exact w);generalize (A.set n (.cells 158 [.sc (.int .i64 r.kd),.sc (.int .i64 v1),.sc (.int .i64 v2),.sc (.int .i64 0),.sc (.int .i64 0),.sc (.int .i64 (-1)),.sc (.int .i64 0),.sc (.int .i64 0),.sc (.int .i64 0),.sc (.bool false)]))=E at*;try apply ae.seq
  cases Z:lq P r.ha with
  |none=>
   simp only[];have i3:=fun σ=>nM (o:=o) (nl:=nl) Z V hl σ
   (((with_reducible apply ae.uh (id:=6) (t:=dy));(exact mixed);kernel_rfl;kernel_rfl;(repeat (with_reducible first|apply kx.then|apply kx.block|(apply kx.zc;decide+kernel))));simp-implicitDefEqProofs [w2,T])
   repeat' (first
    |(with_reducible apply j2)
    |(refine ag.gp (i3 _) ?_;try simp-implicitDefEqProofs))
   all_goals
    refine fin _ _ ?_ _ b4 b5 ?_
    ·rfl
    simp-implicitDefEqProofs [g,sa,aW,FO];exact F _ fun j u v y w=>by simp[AS.set,u,v,w]
  |some v3=>
  have i3:=fun σ=>gu (o:=o) (nl:=nl) Z V hl σ;cases u:lq P (r.ha+r.hl)with
  |none=>
   simp only[];have i4:=fun σ=>nM (o:=o) (nl:=nl) u V hl σ
   (((with_reducible apply ae.uh (id:=6) (t:=dy));(exact mixed);kernel_rfl;kernel_rfl;(repeat (with_reducible first|apply kx.then|apply kx.block|(apply kx.zc;decide+kernel))));simp-implicitDefEqProofs [w2,T])
   repeat' (first
    |(with_reducible apply j2)
    |(refine ag.aC (i3 _) ?_;try simp-implicitDefEqProofs [w2,T])
    |(refine ag.gp (i4 _) ?_;try simp-implicitDefEqProofs))
   all_goals first
    |(refine fin _ _ ?_ _ b4 b5 ?_
      ·rfl
      simp-implicitDefEqProofs [g,sa,aW,FO];exact F _ fun j u v y w=>by simp[AS.set,u,v,w])
    |(refine fin _ _ ?_ _ (AS.aj _ _ _) ((AS.ad _ _ l).trans b5) ?_
      ·rfl
      simp-implicitDefEqProofs [g,l,sa,aW,FO,aG];exact F _ fun j u v y w=>by simp[AS.set,u,v,w])
  |some v4=>
  have i4:=fun σ=>gu (o:=o) (nl:=nl) u V hl σ;simp only[];refine Sg.xk (α:=Unit) (fun _ =>True) (fun _ => [(0,.an 3 (P.map aV) o nl),(3,.ptr id3 0),(4,.ptr n 0),(5,.ptr id5 0)]) (fun _ =>E.set n (.cells 158 [.sc (.int .i64 r.kd),.sc (.int .i64 v1),.sc (.int .i64 v2),.sc (.int .i64 v3),.sc (.int .i64 v4),.sc (.int .i64 (-1)),.sc (.int .i64 0),.sc (.int .i64 0),.sc (.int .i64 0),.sc (.bool false)])) ?_ ?_
  ·(((with_reducible apply ae.uh (id:=6) (t:=dy));(exact mixed);kernel_rfl;kernel_rfl;(repeat (with_reducible first|apply kx.then|apply kx.block|(apply kx.zc;decide+kernel))));simp-implicitDefEqProofs [w2,T])
   repeat' (first
    |(with_reducible apply j2)
    |(refine ag.aC (i3 _) ?_;try simp-implicitDefEqProofs [w2,T])
    |(refine ag.aC (i4 _) ?_;try simp-implicitDefEqProofs [b4]))
   all_goals
    refine fV.mk (()) (gF tI) (by(try dsimp only);exact lR _) ?_;try dsimp only
  intro _ _;have p4:=LP u;have wp:IntKind.i64.wrap ((P.length:Int)-1)=(P.length:Int)-1:=ay (by omega) (by omega);by_cases h2:r.kd=2
  ·rw[if_pos h2];cases v:lq P r.ex with
   |none=>
    simp only;have i5:=fun σ=>nM (o:=o) (nl:=nl) v V hl σ;repeat (first
     |(with_reducible first|apply ae.seq|apply ae.block|refine j2 (by first|omega|assumption|decide) ?_)
     |((first|(with_reducible first|apply ae.fork|apply ae.region|show aN _ _ _ |show aB _ _ _ _ _ _ _ _ _)|((with_reducible apply ae.aR (id:=5) (t:=eR));(exact mixed);kernel_rfl;kernel_rfl;(repeat (with_reducible first|apply ak.then|apply ak.block|apply ak.body|apply ak.no)))|((with_reducible apply ae.aR (id:=6) (t:=dy));(exact mixed);kernel_rfl;kernel_rfl;(repeat (with_reducible first|apply ak.then|apply ak.block|apply ak.body|apply ak.no)))|((with_reducible apply ag.id);first|apply ag.gp (i5 _)));simp-implicitDefEqProofs [h2,T,i])
     |((with_reducible first|apply ae.ret|apply ae.skip|apply ae.exit);try simp-implicitDefEqProofs [h2,T,b4,b5,i,q,g,l]))
    refine fin _ _ ?_ _ (AS.aj _ _ _) ((AS.ad _ _ l).trans b5) ?_
    ·rfl
    simp-implicitDefEqProofs [g,sa,aW,FO];exact F _ fun j u v y w=>by simp[AS.set,u,v,w]
   |some v5=>
    have i5:=fun σ=>gu (o:=o) (nl:=nl) v V hl σ;by_cases h5:v5<P.length-1
    ·simp only[h5,if_true];repeat (first
      |(with_reducible first|apply ae.seq|apply ae.block|refine j2 (by first|omega|assumption|decide) ?_)
      |((first|(with_reducible first|apply ae.fork|apply ae.region|show aN _ _ _ |show aB _ _ _ _ _ _ _ _ _)|((with_reducible apply ae.aR (id:=5) (t:=eR));(exact mixed);kernel_rfl;kernel_rfl;(repeat (with_reducible first|apply ak.then|apply ak.block|apply ak.body|apply ak.no)))|((with_reducible apply ae.aR (id:=6) (t:=dy));(exact mixed);kernel_rfl;kernel_rfl;(repeat (with_reducible first|apply ak.then|apply ak.block|apply ak.body|apply ak.no)))|((with_reducible apply ag.id);first|apply ag.aC (i5 _)|apply ag.aC (L _)));simp-implicitDefEqProofs [h2,T,b5,i,l,h5,wp])
      |((with_reducible first|apply ae.ret|apply ae.skip|apply ae.exit);try simp-implicitDefEqProofs))
     refine rD _ _ _ _ ?_;simp-implicitDefEqProofs [g,sa,aW];exact F _ fun j u v y w=>by simp[AS.set,u,v,w]
    ·simp only[h5,if_false];repeat (first
      |(with_reducible first|apply ae.seq|apply ae.block|refine j2 (by first|omega|assumption|decide) ?_)
      |((first|(with_reducible first|apply ae.fork|apply ae.region|show aN _ _ _ |show aB _ _ _ _ _ _ _ _ _)|((with_reducible apply ae.aR (id:=5) (t:=eR));(exact mixed);kernel_rfl;kernel_rfl;(repeat (with_reducible first|apply ak.then|apply ak.block|apply ak.body|apply ak.no)))|((with_reducible apply ae.aR (id:=6) (t:=dy));(exact mixed);kernel_rfl;kernel_rfl;(repeat (with_reducible first|apply ak.then|apply ak.block|apply ak.body|apply ak.no)))|((with_reducible apply ag.id);first|apply ag.aC (i5 _)|apply ag.gp (O _)));simp-implicitDefEqProofs [h2,T,i,h5,wp])
      |((with_reducible first|apply ae.ret|apply ae.skip|apply ae.exit);try simp-implicitDefEqProofs [h2,T,b4,b5,i,q,g,l,h5,wp]))
     refine fin _ _ ?_ _ (AS.aj _ _ _) (by rw[AS.ad _ _ l];exact b5) ?_
     ·rfl
     simp-implicitDefEqProofs [g,sa,aW,FO];exact F _ fun j u v y w=>by simp[AS.set,u,v,w]
  ·rw[if_neg h2];repeat (first
    |(with_reducible first|apply ae.seq|apply ae.block|refine j2 (by first|omega|assumption|decide) ?_)
    |((first|(with_reducible first|apply ae.fork|apply ae.region|show aN _ _ _ |show aB _ _ _ _ _ _ _ _ _)|((with_reducible apply ae.aR (id:=5) (t:=eR));(exact mixed);kernel_rfl;kernel_rfl;(repeat (with_reducible first|apply ak.then|apply ak.block|apply ak.body|apply ak.no)))|((with_reducible apply ae.aR (id:=6) (t:=dy));(exact mixed);kernel_rfl;kernel_rfl;(repeat (with_reducible first|apply ak.then|apply ak.block|apply ak.body|apply ak.no))));simp-implicitDefEqProofs [h2,T,b5,i,l])
    |((with_reducible first|apply ae.ret|apply ae.skip|apply ae.exit);try simp-implicitDefEqProofs))
   refine rD _ _ _ _ ?_;simp-implicitDefEqProofs [g,sa,aW];exact F _ fun j u v y w=>by simp[AS.set,u,v,w]
theorem uA (S:List Nat):aH prog [(1,(.step 1 (.step 2 (.step 3 (.step 4 (.step 10 (.step 11 (.read 0 (.read 5 (.step 6 (.read 7 (.read 8 (.pure 9 (.alt 12 .done .none))))))))))))))] S:=mixed
theorem oY (S:List Nat):aH prog [] S:=mixed
open Cd (eW)
variable {k:LK} {e:LE} {d:LD} {B τ:AS}
theorem cx (l:List (List Int)):kT l= .an 44 (l.map uZ) .aE (decide (l= [])):=rfl
theorem LI.LX (h:LI k e d B τ) (t:Ty) (tb:Int) (r:Nat) (v:0≤tb) (ht:tb≤10) (A:r≤65535):
 aa prog 164 [.ptr k.id 0,cr t,.sc (.int .i64 tb),.sc (.int .i64 r)] τ (RL (dj (kZ t e.t0.length) 5 tb r (.ok ())) (fun _ =>ao (.bQ []) τ)) (TL (dj (kZ t e.t0.length) 5 tb r (.ok ())) τ):=by
 have l:=fun σ=>wH t e.t0.length σ;have g:=h.id;have hm:=fun σ=>lu 5 tb r σ;have w:=fun σ=>eG 5 tb r (by omega) (by omega) (by omega) (by omega) σ;have n:∀ {j},τ j=none→ ¬k.id=j:=fun u q=>by rw[←q,g]at u;cases u
 generalize kZ t e.t0.length=y at l⊢;rw[b8]at g;simp only[cx,Sg.aD]at g l⊢;refine aa.ob func164 ?_;refine gO uA tI tI ?_;intro i o;have n1:=n o;have n2:¬i=k.id:=fun q=>n1 q.symm;cases y
 ·refine gO uA (j2 @g @n1) (j2 @l @w) ?_;exact⟨τ,aq o (lR _),_,by simp[dj],rfl,lR _⟩
 ·refine gO uA (j2 @g @n1) (j2 @l @hm) ?_;exact⟨_,τ,Wk.refl _,aq o (lR _),(),by simp[dj],rfl,rfl⟩
def nu (sp:List Ty) (row i:Int):Except iY Ty:=dj (decide (1≤row∧row≤sp.length)) 5 2 i (.ok (sp.getD (row-1).toNat eW))
theorem LI.spec (h:LI k e d B τ) (row:Int) (r:Nat) (I:r≤65535) (E:d.sp.length≤100000):
 aa prog 215 [.ptr k.id 0,.sc (.int .i64 row),.sc (.int .i64 r)] τ (RL (nu d.sp row r) (fun v=>ao (cr v) τ)) (TL (nu d.sp row r) τ):=by
 have l:=h.id;have hm:=fun σ=>lu 5 2 r σ;have D:=fun σ=>eG 5 2 r (by omega) (by omega) (by omega) (by omega) σ;have w:∀ {j},τ j=none→ ¬k.id=j:=fun n A=>by rw[←A,l]at n;cases n
 rw[b8]at l;obtain⟨X,g⟩:∃X,nu d.sp row r=X:=⟨_,rfl⟩;rw[g];unfold nu at g;refine aa.ob func215 ?_;refine gO oY tI tI ?_;intro i q;have n1:=w q;have n2:¬i=k.id:=fun A=>n1 A.symm;by_cases o:1≤row
 ·by_cases u:row≤d.sp.length
  ·obtain⟨j,F⟩:∃j:Nat,row=(j+1:Nat):=⟨(row-1).toNat,by omega⟩;have hw:IntKind.i64.wrap (row-1)=j:=by rw[show row-1=j by omega];exact ay (by omega) (by omega)
   have n:j<d.sp.length:=by omega
   have G:d.sp[j]? =some d.sp[j]:=List.getElem?_eq_getElem n;have y:d.sp.getD j eW=d.sp[j]:=by rw[List.getD_eq_getElem?_getD,G];rfl
   have H:dj (decide (1≤row∧row≤d.sp.length)) 5 2 r (.ok (d.sp.getD (row-1).toNat eW):Except iY Ty)= .ok d.sp[j]:=by rw[dj,if_pos (by simp[o,u]),show(row-1).toNat=j by omega,y]
   repeat (first
    |(with_reducible first|apply ae.seq|apply ae.block|refine j2 (by first|omega|assumption|decide) ?_)
    |((first|(with_reducible first|apply ae.fork|apply ae.region|show aN _ _ _ |show aB _ _ _ _ _ _ _ _ _)|((with_reducible apply ag.id);first|apply ag.aC (hm _)));simp-implicitDefEqProofs [l,n1,o,u,hw,n,Sg.aD])
    |((with_reducible first|apply ae.ret|apply ae.skip|apply ae.exit);try simp-implicitDefEqProofs))
   exact⟨_,τ,Wk.refl _,aq q (lR _),_,by rw[←g,H],rfl,rfl⟩
  ·refine gO oY (j4 @l @n1 @o @u) @D ?_;exact⟨τ,aq q (lR _),_,by rw[←g,dj,if_neg (by simp[u])],rfl,lR _⟩
 ·refine gO oY @o @D ?_;exact⟨τ,aq q (lR _),_,by rw[←g,dj,if_neg (by simp[o])],rfl,lR _⟩
def pq:Nat→List (List (List Int)×Int)→Except iY Unit
 | _,[]=> .ok ()
 |i,x::r=>dj (decide ((x.1.length:Int)≤x.2)) 4 i 0 (pq (i+1) r)
def vg (e:LE):List (List (List Int)×Int):= [(e.t0,32),(e.t1,64),(e.t2,64),(e.t3,128),(e.t4,16383),(e.t5,64)]
theorem LI.counts (h:LI k e d B τ):
 aa prog 107 [.ptr k.id 0] τ (RL (pq 0 (vg e)) (fun _ =>ao (.bQ []) τ)) (TL (pq 0 (vg e)) τ):=by
 have j:=h.id;have hm:=fun t σ=>lu 4 t 0 σ;rw[b8]at j;simp only[cx]at j;obtain⟨X,q⟩:∃X,pq 0 (vg e)=X:=⟨_,rfl⟩;rw[q];refine aa.ob func107 ?_;refine gO oY tI tI ?_;refine ae.bp (α:=(Nat)) (0) (fun i=>6-i) (fun i=>i≤6∧pq i ((vg e).drop i)=X) [(0,?_),(4,?_)] (fun i=> [(5,.sc (.int .i64 i))]) (fun i=>τ) ?_ ?_ ?_ ?_;rotate_left 2
 ·exact gF tI
 ·exact gT
 ·exact⟨by omega,q⟩
 intro i o;try dsimp only at o⊢
 obtain⟨E,n⟩:=o;simp only[gj];by_cases A:i<6
 ·have D:((i:Int)<6)=True:=by simp;omega
  have u:=fun σ=>eG 4 i 0 (by omega) (by omega) (by omega) (by omega) σ;have y:=fun σ=>hm i σ;have l:X= .error (mF 4 i 0)→ ∃σ',AS.le σ' τ∧TL X τ (pX (mF 4 i 0)) σ':=fun w=>⟨τ,lR _,_,w,rfl,lR _⟩;have g:i=0∨i=1∨i=2∨i=3∨i=4∨i=5:=by omega
  generalize v:vg e=L at n;rcases g with g|g|g|g|g|g;all_goals
   simp only[vg]at v;subst v;rw[g]at n;simp only[List.drop_succ_cons,List.drop_zero,pq,dj]at n;split at n
   ·rename_i c;simp only[decide_eq_true_eq]at c;refine gO oY (j3 @c @g @j) @hm ?_;refine aP.mk (i+1) (by(try dsimp only);omega) (gF @g) gT ?_;try dsimp only
    exact⟨by omega,by rw[g];simpa[vg,pq,dj]using n⟩
   ·rename_i c;simp only[decide_eq_true_eq]at c;rw[g]at u l;refine gO oY (j3 @c @g @j) @u ?_;exact l (by rw[←n])
 ·have D:((i:Int)<6)=False:=by simp;omega
  obtain rfl:i=6:=by omega
  refine gO oY tI tI ?_;exact⟨.bQ [],τ,Wk.refl _,lR _,(),by rw[←n];rfl,rfl,rfl⟩
end Im
end Go.Proofs.YtknalmoackcpbaaGreat
namespace Go.Proofs.YtknalmoackcpbaaGreat
namespace Im
open Go Go.AW Tryz
theorem cT (S:List Nat):aH prog [(8,(.step 0 (.step 1 (.step 2 (.step 3 (.read 4 (.read 5 (.step 6 (.alt 7 (.step 8 (.step 9 (.alt 10 .done .none))) .none)))))))))] S:=mixed
open Sg (iN cD oz jf je qy)
variable {k:LK} {e:LE} {d:LD} {B τ:AS}
theorem Km (b:By) (g:Int):(Pl.jz b g).1.length≤b.length:=by
 unfold Pl.jz;split
 ·simp
 ·split
  ·simp
  ·split
   ·simp
   ·simp only[List.length_drop,List.length_take];omega
theorem qH {b:By}{g:Int}{l:By}(h:j9 b g= .ok l):l.length≤b.length:=by
 unfold j9 at h;split at h
 ·cases h;exact Km b g
 ·cases h
theorem y4 {b:By} :∀ {k a:Nat}{l:List Ty}{g:Nat},Sg.eList b k a= .ok (l,g)→l.length=k:=by
 intro k;induction k with
 |zero=>intro a l g h;simp[Sg.eList]at h;simp[←h.1]
 |succ k i=>
  intro a l g h;simp only[Sg.eList]at h;split at h
  ·cases h
  ·split at h
   ·cases h
   ·rename_i j;cases h;simp[i j]
theorem J4 {b:By}{l:List Ty}{a:Nat}(h:Sg.ve b= .ok (l,a)):l.length≤12:=by
 unfold Sg.ve at h;split at h
 ·cases h
 ·split at h
  ·split at h
   ·cases h
   ·split at h
    ·have:=y4 h;omega
    ·cases h
  ·cases h
theorem BV (b:By):(oz (je b)).length≤12:=by
 unfold je Sg.qa;cases h:Sg.ve b with
 |error x=>simp[oz]
 |ok x=>
  obtain⟨l,a⟩:=x;simp only;split
  ·simp[oz]
  ·exact J4 h
theorem J0 {b:By}{x:Sg.Sg}{a:Nat}(h:Sg.rp b= .ok (x,a)):x.ps.length≤6:=by
 unfold Sg.rp at h;split at h
 ·cases h
 ·split at h
  ·split at h
   ·cases h
   ·split at h
    ·split at h
     ·cases h
     ·split at h
      ·cases h
      ·rename_i g;cases h;have:=y4 g;simp only;omega
    ·cases h
  ·cases h
theorem Iu (b:By):(Sg.lk (Sg.eP b)).ps.length≤6:=by
 unfold Sg.eP Sg.qa;cases h:Sg.rp b with
 |error x=>simp[Sg.lk]
 |ok x=>
  obtain⟨l,a⟩:=x;simp only;split
  ·simp[Sg.lk]
  ·exact J0 h
def ia (r:List Int) (i:Nat):Int:=r.getD i 0
def Lk (x:Except Int Ty):Int:=if cD x=0∧((iN x).ref=true∨(iN x).kind=1)then 10 else cD x
def iK (B:By) (nt:Int):List Ty→Nat→List (List Int)→Except iY (List Ty)
 |acc,_,[]=> .ok acc
 |acc,i,r::rs=>cM (j9 B (ia r 0)) fun b=>dj (decide (Lk (jf b)=0)) (Lk (jf b)) 4 i (dj (kZ (iN (jf b)) nt) 5 4 i (iK B nt (acc++ [iN (jf b)]) (i+1) rs))
def oK (nt:Int) (i:Nat):List Ty→Except iY Unit
 |[]=> .ok ()
 |t::ts=>dj (kZ t nt) 5 5 i (oK nt i ts)
def k9 (B:By) (nt:Int):List (List Ty)→Nat→List (List Int)→Except iY (List (List Ty))
 |acc,_,[]=> .ok acc
 |acc,i,r::rs=>cM (j9 B (ia r 0)) fun b=>dj (decide (cD (je b)=0)) (cD (je b)) 5 i (cM (oK nt i (oz (je b))) fun _ =>k9 B nt (acc++ [oz (je b)]) (i+1) rs)
theorem aK {α:Type}{b:Bool}{e t r:Int}{x X:Except iY α}(h:dj b e t r x=X):(b=true∧x=X)∨(b=false∧X= .error (mF e t r)):=by
 cases b
 ·exact .inr ⟨rfl,h.symm⟩
 ·exact .inl ⟨rfl,h⟩
theorem bD {α β:Type}{x:Except iY α}{k:α→Except iY β}{X:Except iY β}(h:cM x k=X):(∃a,x= .ok a∧k a=X)∨(∃f,x= .error f∧X= .error f):=by
 cases x with
 |error f=>exact .inr ⟨f,rfl,h.symm⟩
 |ok a=>exact .inl ⟨a,rfl,h⟩
theorem LI.Vh (h:LI k e d B τ) (t:Ty):LI k e { d with sp:=d.sp++ [t] } B ((τ.set k.tP (.tok (d.sp.length+1))).set k.id (.cells 108 (C2 k e { d with sp:=d.sp++ [t] } 0))):=by
 obtain⟨n1,n2,o,n,l,i,g,w,v,q⟩:=h.ne;refine h.mk' (AS.aj _ _ _) ?_ ?_ ?_ ?_ fun j u j2 j3 j4 j5=> ?_
 ·rw[AS.ad _ _ n1.symm,AS.aj];simp
 ·rw[AS.ad _ _ n2.symm,AS.ad _ _ l.symm];exact h.tO
 ·rw[AS.ad _ _ o.symm,AS.ad _ _ i.symm];exact h.tF
 ·rw[AS.ad _ _ n.symm,AS.ad _ _ g.symm];exact h.tM
 ·rw[AS.ad _ _ u,AS.ad _ _ j2]
theorem LI.Vi (h:LI k e d B τ) (t:List Ty):LI k e { d with lo:=d.lo++ [t] } B ((τ.set k.tO (.tok (d.lo.length+1))).set k.id (.cells 108 (C2 k e { d with lo:=d.lo++ [t] } 0))):=by
 obtain⟨n1,n2,o,n,l,w,v,i,g,q⟩:=h.ne;refine h.mk' (AS.aj _ _ _) ?_ ?_ ?_ ?_ fun j u j2 j3 j4 j5=> ?_
 ·rw[AS.ad _ _ n1.symm,AS.ad _ _ l];exact h.tP
 ·rw[AS.ad _ _ n2.symm,AS.aj];simp
 ·rw[AS.ad _ _ o.symm,AS.ad _ _ i.symm];exact h.tF
 ·rw[AS.ad _ _ n.symm,AS.ad _ _ g.symm];exact h.tM
 ·rw[AS.ad _ _ u,AS.ad _ _ j3]
theorem QU {l:List (List Int)}(h:oc 1 l) {i:Nat}(j:i<l.length):∃a,l[i]? =some [a]∧l.drop i= [a]::l.drop (i+1)∧0≤a∧a<4294967296:=by
 obtain⟨h1,g⟩:=h.2 l[i] (List.getElem_mem j)
 match n:l[i],h1,g with
 |[a],_,g=>exact⟨a,by rw[List.getElem?_eq_getElem j,n],by rw[List.drop_eq_getElem_cons j,n],(g a (by simp)).1,(g a (by simp)).2⟩
theorem IC (a:Int):uZ [a]= .an 3 [.sc (.int .i64 a)] .aE false:=rfl
def Vl (k:LK) (e:LE) (d:LD) (B:AS) (v:List Ty×List (List Ty)) (r:AV) (g:AS):Prop:=r= .bQ []∧LI k e { d with sp:=v.1,lo:=v.2 } B g
def pT (e:LE):Except iY (List Ty×List (List Ty)):=cM (iK e.B e.t0.length [] 0 e.t4) fun sp=>cM (k9 e.B e.t0.length [] 0 e.t5) fun lo=> .ok (sp,lo)
theorem LI.signatures (h:LI k e d B τ) (hs:d.sp= []) (ho:d.lo= []) (hB:AS.le B τ):
 aa prog 108 [.ptr k.id 0] τ (RL (pT e) (Vl k e d B)) (TL (pT e) B):=by
 have hm:=fun a t r σ=>lu a t r σ;obtain⟨X,n⟩:∃X,pT e=X:=⟨_,rfl⟩;rw[n];unfold pT at n;have S:=h.id;rw[b8]at S;simp only[cx]at S;have im:∀ {f τ'},X= .error f→AS.le B τ'→ ∃σ',AS.le σ' τ'∧TL X B (pX f) σ':=fun {f τ'} hx hle=>⟨τ',lR _,_,hx,rfl,hle⟩;have h4:=h.e.t4;have h5:=h.e.t5;have eB:=h.e.B;obtain⟨Y,hY⟩:∃Y,iK e.B e.t0.length [] 0 e.t4=Y:=⟨_,rfl⟩;obtain⟨Z,hZ⟩:∃Z,k9 e.B e.t0.length [] 0 e.t5=Z:=⟨_,rfl⟩;rw[hY,hZ]at n;refine aa.ob func108 ?_;refine gO cT @S tI ?_;refine ae.bp (α:=(Nat)×(List Ty)×(AS)) ((0,[],τ)) (fun⟨i,sp,O⟩=>e.t4.length-i) (fun⟨i,sp,O⟩=>i≤e.t4.length∧sp.length=i∧iK e.B e.t0.length sp i (e.t4.drop i)=Y∧LI k e { d with sp:=sp } B O) [(0,?_),(18,?_),(19,?_)] (fun⟨i,sp,O⟩=> [(20,.sc (.int .i64 i))]) (fun⟨i,sp,O⟩=>O) ?_ ?_ ?_ ?_;rotate_left 3
 ·exact gF tI
 ·exact gT
 ·exact⟨by omega,rfl,hY,by rw[←hs];exact h⟩
 intro x_ A;obtain⟨i,sp,O⟩:=x_;try dsimp only at A⊢
 obtain⟨hi,b0,g,h1⟩:=A;simp only[gj];by_cases Q:i<e.t4.length
 ·obtain⟨a,u,am,b4,b3⟩:=QU h4 Q;have b6:=h4.1;rw[am]at g;simp only[iK,ia,List.getD_cons_zero]at g;have hI:((i:Int)<e.t4.length)=True:=by simp;omega
  have hb:=h1.yi a;rcases bD g with⟨b,w,g⟩|⟨f,w,g⟩
  ·have D:=RL.ok hb w;have a7:=qH w;have M:=fun σ=>Sg.JR b .aE false (by simp) (by omega) σ;generalize jf b=s at M g;have hE:(cD s=0∧((iN s).ref=true∨(iN s).kind=1)∧Lk s=10)∨(Lk s=cD s∧(¬cD s=0∨((iN s).ref=false∧ ¬(iN s).kind=1))):=by unfold Lk;by_cases c0:cD s=0<;>by_cases c1:(iN s).ref=true<;>by_cases c2:(iN s).kind=1<;>simp[c0,c1,c2]
   generalize iN s=t at M g hE;simp only[Sg.aD]at M;have bad:=fun a σ=>eG a 4 i (by omega) (by omega) (by omega) (by omega) σ;refine gO cT (j3 hI @u @IC) (j2 @D @M) ?_;intro P ac;have F:=h1.own (b:= .cells 49 (cr t).cells) ac;have V:AS.le B (B.set P (.cells 49 (cr t).cells)):=aq (h1.mP ac) (lR _);simp only[Sg.aD,aQ]at F V;have k2:(O.set P (.cells 49 [.sc (.int .i64 t.kind),.sc (.int .i64 t.index),.sc (.int .i64 t.bt),.sc (.bool t.ref)])) P=some (.cells 49 [.sc (.int .i64 t.kind),.sc (.int .i64 t.index),.sc (.int .i64 t.bt),.sc (.bool t.ref)]):=AS.aj _ _ _;generalize (O.set P (.cells 49 [.sc (.int .i64 t.kind),.sc (.int .i64 t.index),.sc (.int .i64 t.bt),.sc (.bool t.ref)]))=I at*;have E:=F.drop V;rcases hE with⟨c0,c1,c2⟩|⟨c2,T⟩
   ·rw[c2]at g;have b5:Y= .error (mF 10 4 i):=g.symm;rw[b5]at n;have ar:t.ref=true∨(t.ref=false∧t.kind=1):=by cases hr:t.ref<;>simp_all
    rcases ar with c1|⟨c1,ar⟩
    ·refine gO cT (j3 @k2 @c0 @c1) @bad ?_;exact im n.symm E.le
    ·refine gO cT (j4 @k2 @c0 @c1 @ar) @bad ?_;exact im n.symm E.le
   ·rw[c2]at g;rcases aK g with⟨c0,g⟩|⟨c0,g⟩
    ·have c0:cD s=0:=by simpa using c0
     rcases T with T|⟨T,c4⟩
     ·exact absurd c0 T
     have G:=F.LX t 4 i (by omega) (by omega) (by omega);rcases aK g with⟨c5,g⟩|⟨c5,g⟩
     ·have o:=RL.ok G (v:=()) (by simp[dj,c5]);have hP:=F.tP;have q:=F.id;have a4:=F.ne.1;have c8:=a4.symm;have b1:sp.length≤70000:=by omega
      rw[b8]at q;simp only[cx]at q hP;simp only[Sg.aD,T]at o;have wi:IntKind.i64.wrap ((i:Int)+1)=i+1:=ay (by omega) (by omega);refine gO cT (j8 @k2 @c0 @T @c4 @q @hP @a4 @wi) (j2 @hm @o) ?_;refine aP.mk ((i+1,sp++ [t],(I.set k.tP (.tok (sp.length+1))).set k.id (.cells 108 (C2 k e { d with sp:=sp++ [t] } 0)))) (by(try dsimp only);omega) (gF tI) (by(try dsimp only);exact le_eq (by rw[b8];simp[Sg.aD,T,cx])) ?_;try dsimp only
      exact⟨by omega,by simp[b0],g,E.Vh t⟩
     ·have o:=RL.bad G (e:=mF 5 4 i) (by simp[dj,c5]);rw[g]at n;simp only[Sg.aD,T]at o;refine gO cT (j4 @k2 @c0 @T @c4) (j2 @hm @o) ?_;refine eD ?_;intro τ5 h5;exact im n.symm (AS.le_trans E.le h5)
    ·have c0:¬cD s=0:=by simpa using c0
     rw[g]at n;refine gO cT @c0 @bad ?_;exact im n.symm E.le
  ·have D:=RL.bad hb w;rw[g]at n;refine gO cT (j3 hI @u @IC) @D ?_;refine eD ?_;intro I F;exact im n.symm (AS.le_trans h1.le F)
 ·have hI:((i:Int)<e.t4.length)=False:=by simp;omega
  have H:e.t4.drop i= []:=List.drop_eq_nil_iff.2 (by omega);rw[H]at g;simp only[iK]at g;rw[←g]at n;simp only[cM]at n;have q:=h1.id;rw[b8]at q;simp only[cx]at q;clear g H Q S;refine gO cT (j2 hI @q) tI ?_;refine ae.bp (α:=(Nat)×(List (List Ty))×(AS)) ((0,[],O)) (fun⟨j,lo,I⟩=>e.t5.length-j) (fun⟨j,lo,I⟩=>j≤e.t5.length∧lo.length=j∧k9 e.B e.t0.length lo j (e.t5.drop j)=Z∧LI k e { d with sp:=sp,lo:=lo } B I) [(0,?_),(71,?_),(72,?_)] (fun⟨j,lo,I⟩=> [(73,.sc (.int .i64 j))]) (fun⟨j,lo,I⟩=>I) ?_ ?_ ?_ ?_;rotate_left 3
  ·exact gF tI
  ·exact gT
  ·exact⟨by omega,rfl,hZ,by rw[←ho];exact h1⟩
  intro x_ A;obtain⟨j,lo,I⟩:=x_;try dsimp only at A⊢
  obtain⟨hj,b2,g,F⟩:=A;simp only[gj];by_cases Q:j<e.t5.length
  ·obtain⟨a,u,am,b4,b3⟩:=QU h5 Q;have b6:=h5.1;rw[am]at g;simp only[k9,ia,List.getD_cons_zero]at g;have hJ:((j:Int)<e.t5.length)=True:=by simp;omega
   have hb:=F.yi a;rcases bD g with⟨b,w,g⟩|⟨f,w,g⟩
   ·have D:=RL.ok hb w;have a7:=qH w;have ab:=BV b;have M:=fun σ=>Sg.Ah b .aE false (by simp) (by omega) σ;generalize je b=s at M g ab;generalize oz s=l at M g ab;have bad:=fun a σ=>eG a 5 j (by omega) (by omega) (by omega) (by omega) σ;simp only[qy]at M;rcases aK g with⟨c0,g⟩|⟨c0,g⟩
    ·have c0:cD s=0:=by simpa using c0
     obtain⟨W,hW⟩:∃W,oK e.t0.length j l=W:=⟨_,rfl⟩;rw[hW]at g;refine gO cT (j4 @hJ @u @IC @c0) (j3 @D @M @hm) ?_;refine ae.bp (α:=(Nat)×(AS)) ((0,I)) (fun⟨y,L⟩=>l.length-y) (fun⟨y,L⟩=>y≤l.length∧oK e.t0.length j (l.drop y)=W∧LI k e { d with sp:=sp,lo:=lo } B L) [(0,?_),(6,?_),(7,?_),(8,?_),(9,?_),(71,?_),(72,?_),(73,?_),(74,?_),(75,?_),(76,?_),(77,?_),(78,?_),(79,?_),(80,?_),(81,?_),(82,?_),(83,?_),(84,?_),(85,?_),(86,?_),(87,?_),(88,?_),(89,?_),(90,?_),(92,?_),(93,?_)] (fun⟨y,L⟩=> [(94,.sc (.int .i64 y))]) (fun⟨y,L⟩=>L) ?_ ?_ ?_ ?_;rotate_left 27
     ·exact gF tI
     ·exact gT
     ·exact⟨by omega,hW,F⟩
     intro x_ A;obtain⟨y,L⟩:=x_;try dsimp only at A⊢
     obtain⟨hy,K,E⟩:=A;simp only[gj];by_cases a5:y<l.length
     ·have a6:l[y]? =some l[y]:=List.getElem?_eq_getElem a5;rw[List.drop_eq_getElem_cons a5]at K;have al:((y:Int)<l.length)=True:=by simp;omega
      generalize l[y]=t at K a6;simp only[oK]at K;have wy:IntKind.i64.wrap ((y:Int)+1)=y+1:=ay (by omega) (by omega);refine gO cT (j3 @al @a6 @Sg.aD) tI ?_;intro i11 af;have h4:=E.own (b:= .cells 49 (cr t).cells) af;have U:AS.le B (B.set i11 (.cells 49 (cr t).cells)):=aq (E.mP af) (lR _);have G:=h4.LX t 5 j (by omega) (by omega) (by omega);simp only[Sg.aD,aQ]at h4 U G;have k4:(L.set i11 (.cells 49 [.sc (.int .i64 t.kind),.sc (.int .i64 t.index),.sc (.int .i64 t.bt),.sc (.bool t.ref)])) i11=some (.cells 49 [.sc (.int .i64 t.kind),.sc (.int .i64 t.index),.sc (.int .i64 t.bt),.sc (.bool t.ref)]):=AS.aj _ _ _;generalize (L.set i11 (.cells 49 [.sc (.int .i64 t.kind),.sc (.int .i64 t.index),.sc (.int .i64 t.bt),.sc (.bool t.ref)]))=τ4 at*;have bb:=h4.drop U;rcases aK K with⟨c5,K⟩|⟨c5,K⟩
      ·have o:=RL.ok G (v:=()) (by simp[dj,c5]);refine gO cT (j2 @k4 @wy) @o ?_;refine aP.mk ((y+1,τ4)) (by(try dsimp only);omega) (gF tI) gT ?_;try dsimp only
       exact⟨by omega,K,bb⟩
      ·have o:=RL.bad G (e:=mF 5 5 j) (by simp[dj,c5]);rw[K]at g;rw[←g]at n;refine gO cT (j2 @k4 @wy) @o ?_;refine eD ?_;intro τ5 h5;exact im n.symm (AS.le_trans bb.le h5)
     ·have al:((y:Int)<l.length)=False:=by simp;omega
      have H:l.drop y= []:=List.drop_eq_nil_iff.2 (by omega);rw[H]at K;simp only[oK]at K;rw[←K]at g;simp only[cM]at g;have J:=E.id;rw[b8]at J;simp only[cx]at J;have hO:=E.tO;have a3:=E.ne.2.1;have c7:=a3.symm;have b1:lo.length≤70000:=by omega
      have wj:IntKind.i64.wrap ((j:Int)+1)=j+1:=ay (by omega) (by omega);simp only at hO;refine gO cT (j5 @al @J @hO @a3 @wj) tI ?_;refine aP.mk ((j+1,lo++ [l],(L.set k.tO (.tok (lo.length+1))).set k.id (.cells 108 (C2 k e { d with sp:=sp,lo:=lo++ [l] } 0)))) (by(try dsimp only);omega) (gF tI) (by(try dsimp only);exact le_eq (by rw[b8];simp[qy,cx])) ?_;try dsimp only
      exact⟨by omega,by simp[b2],g,E.Vi l⟩
    ·have c0:¬cD s=0:=by simpa using c0
     rw[g]at n;refine gO cT (j4 @hJ @u @IC @c0) (j3 @D @M @bad) ?_;exact im n.symm F.le
   ·have D:=RL.bad hb w;rw[g]at n;refine gO cT (j3 @hJ @u @IC) @D ?_;refine eD ?_;intro L E;exact im n.symm (AS.le_trans F.le E)
  ·have hJ:((j:Int)<e.t5.length)=False:=by simp;omega
   have H:e.t5.drop j= []:=List.drop_eq_nil_iff.2 (by omega);rw[H]at g;simp only[k9]at g;rw[←g]at n;refine gO cT @hJ tI ?_;exact⟨.bQ [],I,Wk.refl _,lR _,(sp,lo),n.symm,rfl,F⟩
end Im
end Go.Proofs.YtknalmoackcpbaaGreat
namespace Go.Proofs.YtknalmoackcpbaaGreat
namespace Im
open Go Go.AW Tryz
theorem jG (S:List Nat):aH prog [] S:=mixed
variable {k:LK} {e:LE} {d:LD} {B τ:AS}
def fU (c:Nat) (n nt:Int):List Int→Int→Nat→List (List Int)→Except iY (List Int)
 |acc,last,_,[]=> .ok (acc++List.replicate (n+1-last).toNat (nt-1))
 |acc,last,i,r::rs=>dj (decide (last≤ia r c∧ia r c≤n+1∧(0<i∨ia r c=1))) 3 0 i (fU c n nt (acc++List.replicate (ia r c-last).toNat ((i:Int)-1)) (ia r c) (i+1) rs)
theorem TU {n c:Nat}{l:List (List Int)}(h:oc n l) (j:c<n) {i:Nat}(g:i<l.length):∃r v,l[i]? =some r∧l.drop i=r::l.drop (i+1)∧r[c]? =some v∧(∃j:c<r.length,r[c]=v)∧ia r c=v∧0≤v∧v<4294967296:=by obtain⟨h1,o⟩:=h.2 l[i] (List.getElem_mem g);refine⟨l[i],l[i][c]'(by omega),List.getElem?_eq_getElem g,List.drop_eq_getElem_cons g,List.getElem?_eq_getElem (by omega),⟨by omega,rfl⟩,?_,o _ (List.getElem_mem _)⟩;rw[ia,List.getD_eq_getElem?_getD,List.getElem?_eq_getElem (by omega)];rfl
theorem LI.I4 (h:LI k e d B τ) (c:Nat) (hc:c<5) (n:Nat) (hn:n≤65535):
 aa prog 168 [.ptr k.id 0,.sc (.int .i64 c),.sc (.int .i64 n)] τ (RL (fU c n e.t0.length [] 1 0 e.t0) (fun v=>ao (.an 3 (v.map aV) .aE (decide (v= []))) τ)) (TL (fU c n e.t0.length [] 1 0 e.t0) τ):=by
 have hm:=fun a t r σ=>lu a t r σ;obtain⟨X,L⟩:∃X,fU c n e.t0.length [] 1 0 e.t0=X:=⟨_,rfl⟩;rw[L];have q:=h.id;rw[b8]at q;simp only[cx]at q;have h0:=h.e.t0;have a6:=h0.1;refine aa.ob func168 ?_;refine gO (S:= [3]) jG tI tI ?_;refine ae.fM 7 3 [] true (by simp) (.inr ⟨by simp,rfl,rfl⟩) ?_;intro u F;have T:¬k.id=u:=fun e'=>by rw[←e',q]at F;cases F
 have Q:¬u=k.id:=fun e'=>T e'.symm;have D:∀m,AS.le τ (τ.set u (.tok m)):=fun m=>aq F (lR _);have im:∀ {f m},X= .error f→ ∃σ',AS.le σ' (τ.set u (.tok m))∧TL X τ (pX f) σ':=fun {f m} hx=>⟨_,lR _,_,hx,rfl,D _⟩;refine gO jG (j2 @q @T) tI ?_;refine ae.bp (α:=(Nat)×(List Int)×(Nat)) ((0,[],1)) (fun⟨i,out,last⟩=>e.t0.length-i) (fun⟨i,out,last⟩=>i≤e.t0.length∧out.length+1=last∧last≤n+1∧fU c n e.t0.length out last i (e.t0.drop i)=X) [(0,?_),(1,?_),(2,?_),(6,?_),(18,?_),(19,?_)] (fun⟨i,out,last⟩=> [(20,.sc (.int .i64 i)),(7,.an 3 (out.map aV) (.tok u) (decide (out= []))),(8,.sc (.int .i64 last))]) (fun⟨i,out,last⟩=>τ.set u (.tok out.length)) ?_ ?_ ?_ ?_;rotate_left 6
 ·exact gF tI
 ·exact gT
 ·exact⟨by omega,rfl,by omega,L⟩
 intro x_ g;obtain⟨i,out,last⟩:=x_;try dsimp only at g⊢
 obtain⟨hi,a3,a4,o⟩:=g;simp only[gj];by_cases Y:i<e.t0.length
 ·obtain⟨r,v,l,ab,a2,⟨A,w⟩,K,a1,a0⟩:=TU h0 hc Y;rw[ab]at o;simp only[fU,K]at o;have I:((i:Int)<e.t0.length)=True:=by simp;omega
  have bad:=fun a σ=>eG a 0 i (by omega) (by omega) (by omega) (by omega) σ;have wi:IntKind.i64.wrap ((i:Int)+1)=i+1:=ay (by omega) (by omega);have wn:IntKind.i64.wrap ((n:Int)+1)=n+1:=ay (by omega) (by omega);have E:IntKind.i64.wrap ((i:Int)-1)=i-1:=ay (by omega) (by omega);rcases aK o with⟨c0,o⟩|⟨c0,o⟩
  ·simp only[decide_eq_true_eq]at c0;obtain⟨H,J,M⟩:=c0;obtain⟨V,rfl⟩:∃V:Nat,v=V:=⟨v.toNat,by omega⟩;have ws:IntKind.i64.wrap ((V:Int)-last)=((V-last:Nat):Int):=by rw[show(V:Int)-last=((V-last:Nat):Int) by omega];exact ay (by omega) (by omega)
   rw[show((V:Int)-last).toNat=V-last by omega]at o;have al:(0<i∧True)∨(¬0<i∧((V:Int)=1)=True):=by
    rcases Nat.eq_zero_or_pos i with h|h
    ·exact .inr ⟨by omega,eq_true (by omega)⟩
    ·exact .inl ⟨h,trivial⟩
   rcases al with⟨M,O⟩|⟨M,O⟩;all_goals
    refine gO jG (j2 (j7 I @l @uZ.eq_1 @A @w @H @J) (j5 @M @O @wn @ws @aG)) @hm ?_;refine ae.bp (α:=(Nat)) (0) (fun y=>V-last-y) (fun y=>y≤V-last) [(0,?_),(1,?_),(2,?_),(6,?_),(8,?_),(9,?_),(10,?_),(11,?_),(18,?_),(19,?_),(20,?_),(21,?_),(22,?_),(23,?_),(24,?_),(25,?_),(26,?_),(27,?_),(28,?_),(29,?_),(30,?_),(31,?_),(32,?_),(33,?_),(34,?_),(35,?_),(36,?_),(37,?_),(38,?_),(39,?_),(40,?_),(41,?_),(42,?_),(43,?_),(44,?_),(45,?_),(46,?_),(48,?_),(49,?_),(50,?_)] (fun y=> [(51,.sc (.int .i64 y)),(7,.an 3 ((out++List.replicate y ((i:Int)-1)).map aV) (.tok u) (decide (out++List.replicate y ((i:Int)-1)= [])))]) (fun y=>τ.set u (.tok (out.length+y))) ?_ ?_ ?_ ?_;rotate_left 40
    ·exact gF tI
    ·exact gT
    ·exact Nat.zero_le _
    intro y g;try dsimp only at g⊢
    obtain hy:=g;simp only[gj];by_cases G:y<V-last
    ·have j:((y:Int)<((V-last:Nat):Int))=True:=by simp;omega
     have P:IntKind.i64.wrap ((y:Int)+1)=y+1:=ay (by omega) (by omega);have U:(out++List.replicate y ((i:Int)-1)).length≤70000:=by simp;omega
     refine gO jG (j3 @j @P @E) tI ?_;refine aP.mk (y+1) (by(try dsimp only);omega) (gF (j2 (fun n (a:AV)=>List.replicate_succ' (n:=n) (a:=a)) @aG)) gT ?_;try dsimp only
     exact G
    ·have j:((y:Int)<((V-last:Nat):Int))=False:=by simp;omega
     obtain rfl:y=V-last:=by omega
     refine gO jG (j2 @j @wi) tI ?_;refine aP.mk ((i+1,out++List.replicate (V-last) ((i:Int)-1),V)) (by(try dsimp only);omega) (gF @aG) (by(try dsimp only);exact le_eq (by simp)) ?_;try dsimp only
     exact⟨by omega,by simp;omega,by omega,o⟩
  ·have c0:¬((last:Int)≤v∧v≤n+1∧(0<i∨v=1)):=by simpa using c0
   by_cases H:(last:Int)≤v
   ·by_cases J:v≤n+1
    ·have M:¬0<i:=fun Z=>c0 ⟨H,J,.inl Z⟩;have O:¬v=1:=fun Z=>c0 ⟨H,J,.inr Z⟩;refine gO jG (j2 (j7 I @l @uZ.eq_1 @A @w @H @J) (j4 @M @O @wn @aG)) @bad ?_;exact im o
    ·refine gO jG (j2 (j7 I @l @uZ.eq_1 @A @w @H @J) (j2 @wn @aG)) @bad ?_;exact im o
   ·refine gO jG (j7 I @l @uZ.eq_1 @A @w @H @aG) @bad ?_;exact im o
 ·have I:((i:Int)<e.t0.length)=False:=by simp;omega
  have ac:e.t0.drop i= []:=List.drop_eq_nil_iff.2 (by omega);rw[ac]at o;simp only[fU]at o;have wn:IntKind.i64.wrap ((n:Int)+1)=n+1:=ay (by omega) (by omega);have ws:IntKind.i64.wrap ((n:Int)+1-last)=((n+1-last:Nat):Int):=by rw[show(n:Int)+1-last=((n+1-last:Nat):Int) by omega];exact ay (by omega) (by omega)
  have E:IntKind.i64.wrap ((e.t0.length:Int)-1)=e.t0.length-1:=ay (by omega) (by omega);rw[show((n:Int)+1-last).toNat=n+1-last by omega]at o;refine gO jG (j3 I @wn @ws) tI ?_;refine ae.bp (α:=(Nat)) (0) (fun y=>n+1-last-y) (fun y=>y≤n+1-last) [(0,?_),(6,?_),(64,?_)] (fun y=> [(65,.sc (.int .i64 y)),(7,.an 3 ((out++List.replicate y ((e.t0.length:Int)-1)).map aV) (.tok u) (decide (out++List.replicate y ((e.t0.length:Int)-1)= [])))]) (fun y=>τ.set u (.tok (out.length+y))) ?_ ?_ ?_ ?_;rotate_left 3
  ·exact gF tI
  ·exact gT
  ·exact Nat.zero_le _
  intro y g;try dsimp only at g⊢
  obtain hy:=g;simp only[gj];by_cases G:y<n+1-last
  ·have j:((y:Int)<((n+1-last:Nat):Int))=True:=by simp;omega
   have P:IntKind.i64.wrap ((y:Int)+1)=y+1:=ay (by omega) (by omega);have U:(out++List.replicate y ((e.t0.length:Int)-1)).length≤70000:=by simp;omega
   refine gO jG (j6 @j @P @E @q @T @Q) tI ?_;refine aP.mk (y+1) (by(try dsimp only);omega) (gF (j2 (fun n (a:AV)=>List.replicate_succ' (n:=n) (a:=a)) @aG)) gT ?_;try dsimp only
   exact G
  ·have j:((y:Int)<((n+1-last:Nat):Int))=False:=by simp;omega
   obtain rfl:y=n+1-last:=by omega
   refine gO jG @j tI ?_;exact⟨.an 3 ((out++List.replicate (n+1-last) ((e.t0.length:Int)-1)).map aV) .aE (decide (out++List.replicate (n+1-last) ((e.t0.length:Int)-1)= [])),τ,by simp,D _,_,o.symm,rfl,rfl⟩
end Im
end Go.Proofs.YtknalmoackcpbaaGreat
namespace Go.Proofs.YtknalmoackcpbaaGreat
namespace Im
open Go Go.AW Tryz
abbrev m9:b7:=(.step 0 (.step 1 (.step 2 (.step 3 (.step 5 (.step 6 (.step 7 (.step 8 (.step 9 (.step 10 (.step 11 (.step 12 (.alt 4 (.step 13 (.alt 14 (.alt 15 .done .none) .none)) (.alt 14 (.alt 4 (.step 13 (.alt 15 .done .none)) .none) .none))))))))))))))
theorem dv (S:List Nat):aH prog [(7,m9),(12,(.step 0 (.step 1 (.step 2 (.step 3 (.step 4 (.read 5 (.read 6 (.step 7 (.alt 8 (.step 9 (.step 10 (.step 11 (.alt 12 .done .none)))) .none))))))))))] S:=mixed
open Sg (iN cD rl)
variable {k:LK} {e:LE} {d:LD} {B τ:AS}
def Jw (N B:By) (nt:Int) (g:List Int) (i:Nat) (r:List Int):Except iY Fd:=
 dj (decide (ia r 0≤1)) 3 1 i (cM (pU N (ia r 1)) fun nm=>cM (j9 B (ia r 2)) fun b=>dj (decide (cD (rl b)=0)) (cD (rl b)) 1 i
  (dj (kZ (iN (rl b)) nt) 5 1 i (.ok ⟨nm,ia g i,iN (rl b),decide (ia r 0=1)⟩)))
def po (N B:By) (nt:Int) (g:List Int):List Fd→Nat→List (List Int)→Except iY (List Fd)
 |acc,_,[]=> .ok acc
 |acc,i,r::rs=>cM (Jw N B nt g i r) fun f=>po N B nt g (acc++ [f]) (i+1) rs
def mf (e:LE):Except iY (List Fd):=
 dj (decide (e.t1= [])||decide (0<e.t0.length)) 5 1 0 (cM (fU 3 e.t1.length e.t0.length [] 1 0 e.t0) fun g=>po e.N e.B e.t0.length g [] 0 e.t1)
theorem iT {α β:Type}(b:Bool) (e t r:Int) (x:Except iY α) (f:α→Except iY β):cM (dj b e t r x) f=dj b e t r (cM x f):=by cases b<;>rfl
theorem iS {α β γ:Type}(x:Except iY α) (f:α→Except iY β) (g:β→Except iY γ):cM (cM x f) g=cM x fun a=>cM (f a) g:=by cases x<;>rfl
theorem dc {α β:Type}(a:α) (f:α→Except iY β):cM (.ok a) f=f a:=rfl
theorem LI.Wz (h:LI k e d B τ) {i:Nat}{x:bN}(g:B i=some x):i≠k.id∧i≠k.tP∧i≠k.tO∧i≠k.tF∧i≠k.tM:=by obtain⟨f0,f1,f2,f3,f4⟩:=h.NA;refine⟨?_,?_,?_,?_,?_⟩<;>(rintro rfl;simp_all)
theorem LI.Vk (h:LI k e d B τ) (t:Fd):LI k e { d with fs:=d.fs++ [t] } B ((τ.set k.tF (.tok (d.fs.length+1))).set k.id (.cells 108 (C2 k e { d with fs:=d.fs++ [t] } 0))):=by
 obtain⟨n1,n2,o,n,w,l,v,i,u,g⟩:=h.ne;refine h.mk' (AS.aj _ _ _) ?_ ?_ ?_ ?_ fun j q j2 j3 j4 j5=> ?_
 ·rw[AS.ad _ _ n1.symm,AS.ad _ _ l];exact h.tP
 ·rw[AS.ad _ _ n2.symm,AS.ad _ _ i];exact h.tO
 ·rw[AS.ad _ _ o.symm,AS.aj];simp
 ·rw[AS.ad _ _ n.symm,AS.ad _ _ g.symm];exact h.tM
 ·rw[AS.ad _ _ q,AS.ad _ _ j4]
theorem TY {l:List (List Int)}(h:oc 3 l) {i:Nat}(j:i<l.length):∃a b c,l[i]? =some [a,b,c]∧l.drop i= [a,b,c]::l.drop (i+1)∧(0≤a∧a<4294967296)∧(0≤b∧b<4294967296)∧(0≤c∧c<4294967296):=by
 obtain⟨h1,g⟩:=h.2 l[i] (List.getElem_mem j)
 match n:l[i],h1,g with
 |[a,b,c],_,g=>exact⟨a,b,c,by rw[List.getElem?_eq_getElem j,n],by rw[List.drop_eq_getElem_cons j,n],g a (by simp),g b (by simp),g c (by simp)⟩
theorem Bm (a b c:Int):uZ [a,b,c]= .an 3 [.sc (.int .i64 a),.sc (.int .i64 b),.sc (.int .i64 c)] .aE false:=rfl
theorem tR {c:Nat}{n nt:Int} :∀ {rs:List (List Int)}{acc:List Int}{last:Int}{i:Nat}{out:List Int},fU c n nt acc last i rs= .ok out→(acc.length:Int)+1=last→last≤n+1→(out.length:Int)=n
 |[],acc,last,i,out,h,h1,g=>by simp only[fU,Except.ok.injEq]at h;subst h;simp only[List.length_append,List.length_replicate];omega
 |r::rs,acc,last,i,out,h,h1,g=>by
  simp only[fU]at h;rcases aK h with⟨c0,h⟩|⟨_,h⟩
  ·simp only[decide_eq_true_eq]at c0;refine tR h ?_ (by omega);simp only[List.length_append,List.length_replicate];omega
  ·cases h
def Vq (k:LK) (e:LE) (d:LD) (B:AS) (v:List Fd) (r:AV) (g:AS):Prop:=r= .bQ []∧LI k e { d with fs:=v } B g
theorem LI.fields (h:LI k e d B τ) (hs:d.fs= []) (nt:Nat) (a8:e.t0.length=nt) (a7:∀σ K,jL prog σ 22 d.ty K=K (.sc (.int .i64 nt))):
 aa prog 110 [.ptr k.id 0] τ (RL (mf e) (Vq k e d B)) (TL (mf e) B):=by
 have hm:=fun a t r σ=>lu a t r σ;obtain⟨X,g⟩:∃X,mf e=X:=⟨_,rfl⟩;rw[g];unfold mf at g;have V:=h.id;rw[b8]at V;simp only[cx]at V;have im:∀ {f τ'},X= .error f→AS.le B τ'→ ∃σ',AS.le σ' τ'∧TL X B (pX f) σ':=fun {f τ'} hx hle=>⟨τ',lR _,_,hx,rfl,hle⟩;have h1:=h.e.t1;have eB:=h.e.B;have bs:=fun σ=>eG 5 1 0 (by omega) (by omega) (by omega) (by omega) σ;have ap:=h.I4 3 (by omega) e.t1.length h1.1;have hc:(e.t1= []∧True)∨(¬e.t1= []∧(0<nt)=True)∨(¬e.t1= []∧ ¬0<nt):=by
  by_cases H:e.t1= []
  ·exact .inl ⟨H,trivial⟩
  ·by_cases c2:0<nt
   ·exact .inr (.inl ⟨H,eq_true c2⟩)
   ·exact .inr (.inr ⟨H,c2⟩)
 rw[a8]at g ap;refine aa.ob func110 ?_;refine gO (S:= [1]) dv @V tI ?_;try apply ae.seq
 refine Sg.xk (α:=Unit) (fun _ =>cM (fU 3 e.t1.length nt [] 1 0 e.t0) (fun q=>po e.N e.B nt q [] 0 e.t1)=X) (fun _ => [(0,.ptr k.id 0),(2,.an 44 (e.t1.map uZ) .aE (decide (e.t1= [])))]) (fun _ =>τ) ?_ ?_
 ·rcases hc with⟨H,c2⟩|⟨H,c2⟩|⟨H,c2⟩
  ·have Z:cM (fU 3 e.t1.length nt [] 1 0 e.t0) (fun q=>po e.N e.B nt q [] 0 e.t1)=X:=by rw[←g];simp[dj,H]
   generalize e.t1=T1 at*;subst H;refine gO dv tI @hm ?_;refine fV.mk (()) (gF tI) (by(try dsimp only);exact lR _) ?_;try dsimp only
   exact Z
  ·have Z:cM (fU 3 e.t1.length nt [] 1 0 e.t0) (fun q=>po e.N e.B nt q [] 0 e.t1)=X:=by rw[←g];simp[dj,H,of_eq_true c2]
   generalize hP:cM (fU 3 e.t1.length nt [] 1 0 e.t0) (fun q=>po e.N e.B nt q [] 0 e.t1)=P at*;refine xM (dv []) @a7 (j3 @V @H @c2) @hm (k:= ?_);refine fV.mk (()) (gF tI) (by(try dsimp only);exact lR _) ?_;try dsimp only
   exact Z
  ·have Z:X= .error (mF 5 1 0):=by rw[←g];simp[dj,H,c2]
   refine xM (dv []) @a7 (j3 @V @H @c2) @bs (k:= ?_);exact im Z h.le
 ·intro _ g;rcases bD g with⟨q,hO,g⟩|⟨f,hO,g⟩
  ·have J:=RL.ok ap hO;have d8:=tR hO (by simp) (by omega);refine gO dv tI @J ?_;obtain⟨Y,hY⟩:∃Y,po e.N e.B nt q [] 0 e.t1=Y:=⟨_,rfl⟩;rw[hY]at g;refine ae.bp (α:=(Nat)×(List Fd)×(AS)) ((0,[],τ)) (fun⟨i,fs,G⟩=>e.t1.length-i) (fun⟨i,fs,G⟩=>i≤e.t1.length∧fs.length=i∧po e.N e.B nt q fs i (e.t1.drop i)=Y∧LI k e { d with fs:=fs } B G) [(0,?_),(3,?_),(33,?_),(34,?_)] (fun⟨i,fs,G⟩=> [(35,.sc (.int .i64 i))]) (fun⟨i,fs,G⟩=>G) ?_ ?_ ?_ ?_;rotate_left 4
   ·exact gF tI
   ·exact gT
   ·exact⟨by omega,rfl,hY,by rw[←hs];exact h⟩
   intro x_ a6;obtain⟨i,fs,G⟩:=x_;try dsimp only at a6⊢
   obtain⟨hi,cd,l,F⟩:=a6;simp only[gj];by_cases cb:i<e.t1.length
   ·obtain⟨a,b,c,I,ce,ha,hb,ea⟩:=TY h1 cb;have ec:=h1.1;rw[ce]at l;simp only[po,Jw,ia,List.getD_cons_zero,List.getD_cons_succ]at l;have hI:((i:Int)<e.t1.length)=True:=by simp;omega
    have Q:i<q.length:=by omega
    have y:q[i]? =some q[i]:=List.getElem?_eq_getElem Q;have ci:q.getD i 0=q[i]:=by rw[List.getD_eq_getElem?_getD,y];rfl
    rw[ci]at l;obtain⟨o,L⟩:∃o,q[i]=o:=⟨_,rfl⟩;rw[L]at y l;have bad:=fun a σ=>eG a 1 i (by omega) (by omega) (by omega) (by omega) σ;have wi:IntKind.i64.wrap ((i:Int)+1)=i+1:=ay (by omega) (by omega);have a9:=F.name b hb.1 hb.2;have av:=F.yi c;simp only[iT,iS,dc]at l;rcases aK l with⟨c0,l⟩|⟨c0,l⟩
    ·have c0:a≤1:=by simpa using c0
     rcases bD l with⟨nm,hN,l⟩|⟨f,hN,l⟩
     ·have O:=RL.ok a9 hN;have M:=fun j x (hj:G j=none)=>RL.ok ((F.own (b:=x) hj).name b hb.1 hb.2) hN;refine gO (S:= [7]) dv (j4 hI @I @Bm @c0) @hm ?_;try apply ae.seq
      refine Hi (α:=Nat) (fun v=>G v=none) (fun v=> [(0,.ptr k.id 0),(3,.an 3 (q.map aV) .aE (decide (q= []))),(4,.sc (.int .i64 i)),(5,uZ [a,b,c]),(6,.ptr v 0),(33,.an 44 (e.t1.map uZ) .aE (decide (e.t1= []))),(34,.sc (.int .i64 e.t1.length)),(35,.sc (.int .i64 i))])
       (fun v=>G.set v (.cells 56 [.sc (.string ⟨nm.toArray⟩),.sc (.int .i64 o),.sc (.int .i64 0),.sc (.int .i64 0),.sc (.int .i64 0),.sc (.bool false),.sc (.bool (decide (a=1)))])) (fun _ _ =>rfl) ?_ ?_
      ·(((with_reducible apply ae.aR (id:=7) (t:=m9));(exact mixed);kernel_rfl;kernel_rfl;(repeat (with_reducible first|apply ak.then|apply ak.block|apply ak.body|apply ak.no)));simp-implicitDefEqProofs [Q,L,Bm,aG])
       repeat' (first
        |(with_reducible apply j2)
        |(intro id6 w;try simp-implicitDefEqProofs [y,Q,L,Bm,aG])
        |(refine ag.aC O ?_;try simp-implicitDefEqProofs)
        |(refine ag.aC (M _ _ (by assumption)) ?_;try simp-implicitDefEqProofs))
       all_goals
        refine fV.mk (id6) (gF tI) (by(try dsimp only);exact lR _) ?_;try dsimp only
        exact(by assumption)
      ·intro id6 w;have h3:=F.own (b:= .cells 56 [.sc (.string ⟨nm.toArray⟩),.sc (.int .i64 o),.sc (.int .i64 0),.sc (.int .i64 0),.sc (.int .i64 0),.sc (.bool false),.sc (.bool (decide (a=1)))]) w;have D:AS.le B (B.set id6 (.cells 56 [.sc (.string ⟨nm.toArray⟩),.sc (.int .i64 o),.sc (.int .i64 0),.sc (.int .i64 0),.sc (.int .i64 0),.sc (.bool false),.sc (.bool (decide (a=1)))])):=aq (F.mP w) (lR _);have k6:(B.set id6 (.cells 56 [.sc (.string ⟨nm.toArray⟩),.sc (.int .i64 o),.sc (.int .i64 0),.sc (.int .i64 0),.sc (.int .i64 0),.sc (.bool false),.sc (.bool (decide (a=1)))])) id6=some (.cells 56 [.sc (.string ⟨nm.toArray⟩),.sc (.int .i64 o),.sc (.int .i64 0),.sc (.int .i64 0),.sc (.int .i64 0),.sc (.bool false),.sc (.bool (decide (a=1)))]):=AS.aj _ _ _;generalize (B.set id6 (.cells 56 [.sc (.string ⟨nm.toArray⟩),.sc (.int .i64 o),.sc (.int .i64 0),.sc (.int .i64 0),.sc (.int .i64 0),.sc (.bool false),.sc (.bool (decide (a=1)))]))=A at*;generalize (G.set id6 (.cells 56 [.sc (.string ⟨nm.toArray⟩),.sc (.int .i64 o),.sc (.int .i64 0),.sc (.int .i64 0),.sc (.int .i64 0),.sc (.bool false),.sc (.bool (decide (a=1)))]))=τ2 at*;have av:=h3.yi c;rcases bD l with⟨bb,ac,l⟩|⟨f,ac,l⟩
       ·have a0:=RL.ok av ac;have cs:=qH ac;have hg:=fun σ=>Sg.B8 bb .aE false (by simp) (by omega) σ;generalize rl bb=s at hg l;generalize iN s=t at hg l;simp only[Sg.aD]at hg;refine gO dv @Bm (j2 @a0 @hg) ?_;intro E T;have h4:=h3.own (b:= .cells 49 (cr t).cells) T;have k7:(A.set E (.cells 49 (cr t).cells)) E=some (.cells 49 (cr t).cells):=AS.aj _ _ _;have n:AS.le A (A.set E (.cells 49 (cr t).cells)):=aq (h3.mP T) (lR _);have b4:id6≠E:=by rintro rfl;rw[h3.mP T]at k6;cases k6
        simp only[Sg.aD,aQ]at h4 k7 n;generalize (A.set E (.cells 49 [.sc (.int .i64 t.kind),.sc (.int .i64 t.index),.sc (.int .i64 t.bt),.sc (.bool t.ref)]))=A2 at*;generalize (τ2.set E (.cells 49 [.sc (.int .i64 t.kind),.sc (.int .i64 t.index),.sc (.int .i64 t.bt),.sc (.bool t.ref)]))=τ3 at*;have ca:=h4.le _ _ (n _ _ k6);have a4:=h4.le _ _ k7;have ar:=h4.LX t 1 i (by omega) (by omega) (by omega);rw[a8]at ar;rcases aK l with⟨c5,l⟩|⟨c5,l⟩
        ·have c5:cD s=0:=by simpa using c5
         rcases aK l with⟨c6,l⟩|⟨c6,l⟩
         ·have u:=RL.ok ar (v:=()) (by simp[dj,c6]);simp only[Sg.aD]at u;have a5:=n _ _ k6;obtain⟨m0,_,_,m3,_⟩:=h4.Wz a5;have h5:=(h4.wr (b:= .cells 56 (ny ⟨nm,o,t,decide (a=1)⟩).cells) a5);have h6:=h5.Vk ⟨nm,o,t,decide (a=1)⟩;have U:=h4.id;have hF:=h4.tF;have a3:=h4.ne.2.2.1;have d3:=a3.symm;have b6:=m0.symm;have b5:=m3.symm;have dp:=b4.symm;have d9:fs.length≤70000:=by omega
          rw[b8]at U;simp only[cx]at U hF;simp only[kD,aQ]at h5 h6;have cj:B id6=none:=F.mP w;refine gO dv (j2 (j7 @c5 @a4 @ca @U @hF @a3 @b6) (j2 @b5 @wi)) (j2 @hm @u) ?_;refine aP.mk ((i+1,fs++ [⟨nm,o,t,decide (a=1)⟩],((τ3.set id6 (.cells 56 (ny ⟨nm,o,t,decide (a=1)⟩).cells)).set k.tF (.tok (fs.length+1))).set k.id (.cells 108 (C2 k e { d with fs:=fs++ [⟨nm,o,t,decide (a=1)⟩] } 0)))) (by(try dsimp only);omega) (gF tI) (by(try dsimp only);exact le_eq (by rw[b8];simp[kD,cx])) ?_;try dsimp only
          exact⟨by omega,by simp[cd],l,h6.drop (AS.ah (AS.le_trans D n) cj)⟩
         ·have u:=RL.bad ar (e:=mF 5 1 i) (by simp[dj,c6]);rw[l]at g;simp only[Sg.aD]at u;refine gO dv (j2 @c5 @a4) (j2 @hm @u) ?_;refine eD ?_;intro τ5 h5;exact im g.symm (AS.le_trans (AS.le_trans D (AS.le_trans n h4.le)) h5)
        ·have c5:¬cD s=0:=by simpa using c5
         rw[l]at g;refine gO dv @c5 @bad ?_;exact im g.symm (AS.le_trans D (AS.le_trans n h4.le))
       ·have a0:=RL.bad av ac;rw[l]at g;refine gO dv @Bm @a0 ?_;refine eD ?_;intro τ5 h5;exact im g.symm (AS.le_trans (AS.le_trans D h3.le) h5)
     ·have O:=RL.bad a9 hN;rw[l]at g;refine gO (S:= [7]) dv (j4 hI @I @Bm @c0) @hm ?_;try apply ae.seq
      have M:=fun j x (hj:G j=none)=>RL.bad ((F.own (b:=x) hj).name b hb.1 hb.2) hN
      (((with_reducible apply ae.aR (id:=7) (t:=m9));(exact mixed);kernel_rfl;kernel_rfl;(repeat (with_reducible first|apply ak.then|apply ak.block|apply ak.body|apply ak.no)));simp-implicitDefEqProofs [Q,L,aG])
      repeat' (first
       |(with_reducible apply j2)
       |(intro id6 w;try simp-implicitDefEqProofs [y,Q,L,Bm,aG])
       |(refine ag.Db O ?_;intro τ2 h3;try simp-implicitDefEqProofs)
       |(refine ag.Db (M _ _ (by assumption)) ?_;intro τ2 h3;try simp-implicitDefEqProofs))
      all_goals first
       |exact im g.symm (AS.le_trans F.le h3)
       |exact im g.symm (AS.le_trans (AS.le_trans F.le (aq (by assumption) (lR _))) h3)
    ·have c0:¬a≤1:=by simpa using c0
     rw[l]at g;refine gO dv (j4 hI @I @Bm @c0) @bad ?_;exact im g.symm F.le
   ·have hI:((i:Int)<e.t1.length)=False:=by simp;omega
    have ch:e.t1.drop i= []:=List.drop_eq_nil_iff.2 (by omega);rw[ch]at l;simp only[po]at l;rw[←l]at g;refine gO dv hI tI ?_;exact⟨.bQ [],G,Wk.refl _,lR _,fs,g.symm,rfl,F⟩
  ·have J:=RL.bad ap hO;refine gO dv tI @J ?_;refine eD ?_;intro τ2 F;exact im g (AS.le_trans h.le F)
end Im
end Go.Proofs.YtknalmoackcpbaaGreat
