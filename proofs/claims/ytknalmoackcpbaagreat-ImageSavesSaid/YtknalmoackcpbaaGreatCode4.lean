/- Package code: the writer; Encode. -/
import Derived.Test.YtknalmoackcpbaaGreatSv2
set_option maxRecDepth 100000
set_option maxHeartbeats 3200000
set_option linter.all false
open Go Go.AW
namespace Go.Proofs.YtknalmoackcpbaaGreat
namespace Cd
open Tryz
theorem sY (S:List Nat):cu prog [(0,(.S 0 (.S 1 (.S 2 (.S 3 (.S 5 (.S 6 (.S 7 (.S 9 (.S 15 (.S 16 (.S 17 (.S 19 (.S 20 (.S 24 (.R 4 (.R 8 (.S 10 (.S 11 (.R 12 (.S 13 (.R 14 (.R 18 (.S 21 (.R 22 (.S 23 (.A 25 .D .Z)))))))))))))))))))))))))))] S:=mixed
def Qi (l:List dM) (o:cA) (nl:Bool) (P:List Int) (np:Bool) (bs:zY) (tk:Nat) (nb:Bool):cL:=
 .cells 313 [.ah 110 (l.map bJ) o nl,.ah 3 (P.map bg) .aJ np,.ah 5 (bs.map u8) (.tok tk) nb]
theorem iF (l:List dM) (o:cA) (nl:Bool) (P:List Int) (np:Bool) (bs:zY) (tk:Nat) (nb:Bool):
 Qi l o nl P np bs tk nb= .cells 313 [.ah 110 (l.map bJ) o nl,.ah 3 (P.map bg) .aJ np,.ah 5 (bs.map u8) (.tok tk) nb]:=rfl
def Rk (id:Nat) (l:List dM) (o:cA) (nl:Bool) (P:List Int) (np:Bool) (bs add:zY) (σ:AS) (r:AV) (σ':AS):Prop:=
 ∃tk,σ tk=none∧r= .cp []∧σ'=(σ.set tk (.tok (bs.length+add.length))).set id (Qi l o nl P np (bs++add) tk false)
theorem aj.SF {f:FuncId}{first cap args:List AV}{σ:AS}{R j K n:AV→AS→Prop}(h:ad prog f (first++args++cap) σ R j) (u:∀r σ',R r σ'→K r σ') (q:∀r σ',j r σ'→n r σ'):aj prog (.fn (.func f) first cap) args σ K n:=⟨R,j,h,u,q⟩
section
variable (id:Nat) (l:List dM) (o:cA) (nl:Bool) (P:List Int) (np:Bool) (bs:zY) (tk:Nat) (nb:Bool) (hn:nb=true→bs= []) (hb:bs.length≤1000000) (σ:AS) (h:σ id=some (Qi l o nl P np bs tk nb))
include hn hb h
theorem xO (x n:Int) (hw:wide n=true):
 ad prog 266 [.ptr id 0,zI x,zI n] σ (Rk id l o nl P np bs (aS (m64 x) n.toNat) σ) No:=by
 have u:=fun σ=>mS bs (.tok tk) nb hn hb (m64 x) n (pW x) (by unfold m64;omega) hw σ;have v:IntKind.u64.wrap x=m64 x:=by rw[Gk];rfl
 rw[iF]at h;refine ad.ob func266 ?_;refine gO aa (j4 @h @v @underlying2 @underlying137) @u ?_;intro q j;have n1:¬id=q:=nq h j;simp-implicitDefEqProofs [n1];exact⟨_,_,Wk.refl _,lR _,q,j,rfl,by rw[iF];simp[an]⟩
variable (i:Nat) (x:dM) (hlt:i<l.length) (hx:l[i]=x)
include hlt hx
theorem lY (n:Int) (hw:wide n=true):
 ad prog 235 [.ptr id 0,zI i,zI n] σ (Rk id l o nl P np bs (aS (m64 x.arg) n.toNat) σ) No:=by
 have w:=xO id l o nl P np bs tk nb hn hb σ h x.arg n hw;rw[iF]at h;obtain⟨op,arg,k,D,d,r⟩:=x;refine ad.ob func235 ?_;refine gO aa (j4 @h hlt @hx @bJ.eq_1) tI ?_;refine aj.of w ?_ (fun _ _ h=>h.elim);rintro y u q;have j:=q;obtain⟨v,A,rfl,rfl⟩:=j;refine gO aa tI tI ?_;exact⟨_,_,Wk.refl _,lR _,q⟩
theorem C3 (y: -9223372036854775808≤x.arg∧x.arg<9223372036854775807) (n:Int) (hw:wide n=true):
 ad prog 237 [.ptr id 0,zI i,zI n] σ (Rk id l o nl P np bs (aS (m64 (x.arg+1)) n.toNat) σ) No:=by
 have A:=xO id l o nl P np bs tk nb hn hb σ h (x.arg+1) n hw;have j:zW (x.arg+1)=x.arg+1:=aI (by omega) (by omega);rw[iF]at h;obtain⟨op,arg,k,F,d,r⟩:=x;refine ad.ob func237 ?_;refine gO aa (j5 @h hlt @hx @bJ.eq_1 @j) tI ?_;refine aj.of A ?_ (fun _ _ h=>h.elim);rintro D v u;have q:=u;obtain⟨w,E,rfl,rfl⟩:=q;refine gO aa tI tI ?_;exact⟨_,_,Wk.refl _,lR _,u⟩
theorem Ei (H:∀y∈P,0≤y∧y≤10000) (ha:0≤x.arg) (E:x.arg<P.length) (D:i+1<P.length) (K:P.length≤1000) (n:Int) (hw:wide n=true):
 ad prog 236 [.ptr id 0,zI i,zI n] σ (Rk id l o nl P np bs (aS (m64 (P.getD x.arg.toNat 0-P.getD (i+1) 0)) n.toNat) σ) No:=by
 have A:=xO id l o nl P np bs tk nb hn hb σ h (P.getD x.arg.toNat 0-P.getD (i+1) 0) n hw;rw[iF]at h;obtain⟨op,arg,k,S,d,r⟩:=x;simp only at ha E A⊢;obtain⟨a,rfl⟩:∃a:Nat,arg=a:=⟨arg.toNat,by omega⟩;have q:a<P.length:=by omega
 have M:P.getD (a:Int).toNat 0=P[a]:=by simp[List.getD_eq_getElem?_getD,q]
 have L:P.getD (i+1) 0=P[i+1]:=by simp[List.getD_eq_getElem?_getD,D]
 have U:=H _ (List.getElem_mem q);have T:=H _ (List.getElem_mem D);rw[M,L]at A⊢;generalize w:P[a]=F at*;generalize j:P[i+1]=p2 at*;have v:zW (F-p2)=F-p2:=aI (by omega) (by omega);refine ad.ob func236 ?_;have u:zW ((i:Int)+1)=((i+1:Nat):Int):=bh (by omega);refine gO sY (j2 (j7 @h hlt @hx @bJ.eq_1 @v @q @D) (j4 @w @j @aG @u)) tI ?_;refine aj.of A ?_ (fun _ _ h=>h.elim);rintro O I G;have j:=G;obtain⟨J,Q,rfl,rfl⟩:=j;refine gO sY tI tI ?_;exact⟨_,_,Wk.refl _,lR _,G⟩
end
open Tryz
abbrev l0:dW:=(.S 0 (.S 1 (.S 2 (.S 3 (.S 5 (.R 4 (.R 6 (.S 7 (.S 8 (.A 9 (.S 10 (.S 11 (.A 12 .D .Z))) .Z))))))))))
theorem dL (S:List Nat):cu prog [(12,l0)] S:=mixed
def Oi (p:zY×Int):AV:= .cp [.ah 5 (p.1.map u8) .aJ (decide (p.1= [])),zI p.2]
def K2 (id:Nat):cL:= .cells 315 [.sc .nilFunc,.fn (.func 235) [.ptr id 0] [],.fn (.func 235) [.ptr id 0] [],.fn (.func 235) [.ptr id 0] [],.fn (.func 235) [.ptr id 0] [],.fn (.func 236) [.ptr id 0] [],.fn (.func 237) [.ptr id 0] [],.fn (.func 237) [.ptr id 0] [],.fn (.func 235) [.ptr id 0] []]
theorem vJ (l:List dM) (o:cA) (nl:Bool) (hl:l.length≤140737488355328) (σ:AS):
 ad prog 187 [kV l o nl] σ (aq (Oi (cW l)) σ) No:=by
 have hp:=fun σ=>qd l o nl hl σ;simp only[kV,fg,Oi]at hp⊢;by_cases Q:(bE l).2=0;rotate_left
 ·have e:cW l=([],(bE l).2):=by unfold cW;rw[if_neg Q]
  have e1:=sF Q;rw[e];rw[e1]at hp;generalize (bE l).2=pe at*;refine ad.ob func187 ?_;exact gE dL @Q @hp
 obtain⟨hlen,a4,bb⟩:=pT Q;have e:cW l=if l.any (fY l.length)then([],11)else(fj (aK l 0) l 0,0):=by unfold cW;rw[if_pos Q]
 have a6:=kz l 0;have b1:∀y∈aK l 0,0≤y∧y≤10000:=fun y hy=>⟨mj l 0 y hy,by have:=mi l 0 y hy;omega⟩;have b4:¬aK l 0= []:=by intro e;rw[e]at a6;simp at a6
 rw[bb]at hp;simp only[b4,decide_false]at hp;generalize aK l 0=P at*;have ak:∀x∈l,dV x=true:=by simpa using a4
 have bf:=fun x σ=>DQ x σ;refine ad.ob func187 ?_;refine gO (S:= [5]) dL tI @hp ?_;intro id ce;refine gO dL tI tI ?_;intro K n b0;have I:=ba n;refine aA.sI id 2 5 [] true (ty:=313) (cs:= [.ah 110 (l.map bJ) o nl,.ah 3 (P.map bg) .aJ false,.aC]) (by simp[I]) (by simp) (.inr ⟨by simp,rfl,rfl⟩) ?_;simp-implicitDefEqProofs [n];intro tk u w Z;have O:=ba w;have J:=ba u;refine gO dL tI tI ?_;refine aA.aY (α:=(Nat)×(zY)×(Nat)) ((0,[],tk)) (fun⟨i,bs,t⟩=>l.length-i) (fun⟨i,bs,t⟩=>i≤l.length∧bs.length≤9*i∧l.any (fY l.length)=(l.drop i).any (fY l.length)∧bs++fj P (l.drop i) i=fj P l 0∧σ t=none∧ ¬t=id∧ ¬t=K) [(0,?_),(6,?_),(7,?_),(42,?_),(43,?_)] (fun⟨i,bs,t⟩=> [(44,zI i)]) (fun⟨i,bs,t⟩=>((σ.set K (K2 id)).set t (.tok bs.length)).set id (Qi l o nl P false bs t (decide (bs= [])))) ?_ ?_ ?_ ?_;rotate_left 5
 ·exact gF tI
 ·(try dsimp only);(intro D y_ af;by_cases e1:D=id<;>by_cases e2:D=K<;>by_cases e3:D=tk<;>simp_all [AS.set,iF,K2])
 ·exact⟨by omega,by simp,rfl,rfl,Z,w,u⟩
 intro x_ ay;obtain⟨i,bs,t⟩:=x_;try dsimp only at ay⊢
 obtain⟨hi,c1,U,Y,bv,v,E⟩:=ay;simp only[fm];clear Z w u O J;have H:=ba v;have F:=ba E;by_cases hlt:i<l.length
 ·have M:IntKind.i64.wrap ((i:Int)+1)=((i+1:Nat):Int):=bh (by omega);rw[List.drop_eq_getElem_cons hlt]at U Y;have L:=bf l[i];have a0:=ak l[i] (List.getElem_mem hlt);generalize hx:l[i]=x at*;rw[a0]at L;simp only[List.any_cons,fj]at U Y;obtain⟨r1,r2,r3,q0,q1,q3,q5,q6,q8⟩:=kZ a0;have a3:=fun σ=>xA (oO x.op) σ;have c0:=mr x.op;have ai:bJ x= .agg [zI x.op,zI x.arg,zI x.t.kind,zI x.t.index,zI x.t.cT,.sc (.bool x.t.ref)]:=rfl;rw[ai]at L;by_cases G:fY l.length x=true
  ·have h5:oO x.op=5:=by simp[fY]at G;exact G.1
   have al:((l.length:Int)≤x.arg)=True:=eq_true (by simp[fY]at G;exact G.2);rw[G]at U;simp only[Bool.true_or]at U;rw[e,U];rw[h5]at L;refine gO dL (j5 hlt @hx @ai @iF @ae) tI ?_;intro ac n1 n2 n3 am;refine gO dL @al @L ?_;all_goals exact gJ tI
  ·have a5:fY l.length x=false:=by simpa using G
   rw[a5]at U;simp only[Bool.false_or]at U;obtain⟨c,X⟩:∃c:UInt8,UInt8.ofNat (x.op%256).toNat=c:=⟨_,rfl⟩;have a7:IntKind.u8.wrap x.op=(c.toNat:Int):=by rw[nO,←X];simp;omega
   have cd:bs.length≤1440:=by omega
   have b3:i+1<P.length:=by omega
   have b2:P.length≤1000:=by omega
   generalize T:oO x.op=V at*;have al:V=5→((l.length:Int)≤x.arg)=False:=fun h5=>eq_false (by simp[fY,T,h5]at G;omega);refine gO dL (j5 hlt @hx @ai @iF @ae) tI ?_;intro ac n1 n2 n3 am;have ab:=ba n1;have ax:=ba n2;have av:=ba n3;have be:V=0∨V=1∨V=2∨V=3∨V=4∨V=5∨V=6∨V=7∨V=8:=by omega
   rcases be with rfl|rfl|rfl|rfl|rfl|rfl|rfl|rfl|rfl
   ·refine gO dL (j2 (j7 @n1 @n2 @ab @ax @av H F) (j7 v @a7 @K2.eq_1 @underlying3 @underlying5 n @M)) (j2 @L @a3) ?_;have j:cS x (P.getD x.arg.toNat 0) (P.getD (i+1) 0)= [c]:=by simp[cS,ji,T,X]
    rw[j]at Y;refine aH.mk ((i+1,bs++ [c],t)) (by(try dsimp only);omega) (gF tI) (by(try dsimp only);(intro D y_ af;by_cases e1:D=id<;>by_cases e2:D=K<;>by_cases e4:D=t<;>by_cases e5:D=ac<;>simp_all [AS.set])) ?_;try dsimp only
    exact⟨hlt,by simp;omega,U,by rw[←Y];simp,bv,v,E⟩
   have W:=fun s h=>lY id l o nl P false (bs++ [c]) t false (by simp) (by simp;omega) s h i x hlt hx 4 (by decide);have j:cS x (P.getD x.arg.toNat 0) (P.getD (i+1) 0)=c::aS (m64 x.arg) 4:=by simp[cS,ji,T,X,eY]
   have q:=an (m64 x.arg) 4;simp only[Int.reduceToNat]at W;generalize aS (m64 x.arg) 4=R at W j q;rotate_left;have W:=fun s h=>lY id l o nl P false (bs++ [c]) t false (by simp) (by simp;omega) s h i x hlt hx 8 (by decide);have j:cS x (P.getD x.arg.toNat 0) (P.getD (i+1) 0)=c::aS (m64 x.arg) 8:=by simp[cS,ji,T,X,eY]
   have q:=an (m64 x.arg) 8;simp only[Int.reduceToNat]at W;generalize aS (m64 x.arg) 8=R at W j q;rotate_left;have W:=fun s h=>lY id l o nl P false (bs++ [c]) t false (by simp) (by simp;omega) s h i x hlt hx 1 (by decide);have j:cS x (P.getD x.arg.toNat 0) (P.getD (i+1) 0)=c::aS (m64 x.arg) 1:=by simp[cS,ji,T,X,eY]
   have q:=an (m64 x.arg) 1;simp only[Int.reduceToNat]at W;generalize aS (m64 x.arg) 1=R at W j q;rotate_left;have W:=fun s h=>lY id l o nl P false (bs++ [c]) t false (by simp) (by simp;omega) s h i x hlt hx 1 (by decide);have j:cS x (P.getD x.arg.toNat 0) (P.getD (i+1) 0)=c::aS (m64 x.arg) 1:=by simp[cS,ji,T,X,eY]
   have q:=an (m64 x.arg) 1;simp only[Int.reduceToNat]at W;generalize aS (m64 x.arg) 1=R at W j q;rotate_left;obtain⟨a1,a2⟩:=q5 rfl;have W:=fun s h=>Ei id l o nl P false (bs++ [c]) t false (by simp) (by simp;omega) s h i x hlt hx b1 a1 (by simp[fY,T]at G;omega) b3 b2 2 (by decide);have j:cS x (P.getD x.arg.toNat 0) (P.getD (i+1) 0)=c::aS (m64 (P.getD x.arg.toNat 0-P.getD (i+1) 0)) 2:=by simp[cS,ji,T,X,eY]
   have q:=an (m64 (P.getD x.arg.toNat 0-P.getD (i+1) 0)) 2;simp only[Int.reduceToNat]at W;generalize aS (m64 (P.getD x.arg.toNat 0-P.getD (i+1) 0)) 2=R at W j q;rotate_left;have W:=fun s h=>C3 id l o nl P false (bs++ [c]) t false (by simp) (by simp;omega) s h i x hlt hx (by have:=q6 (by simp);omega) 2 (by decide);have j:cS x (P.getD x.arg.toNat 0) (P.getD (i+1) 0)=c::aS (m64 (x.arg+1)) 2:=by simp[cS,ji,T,X,eY]
   have q:=an (m64 (x.arg+1)) 2;simp only[Int.reduceToNat]at W;generalize aS (m64 (x.arg+1)) 2=R at W j q;rotate_left;have W:=fun s h=>C3 id l o nl P false (bs++ [c]) t false (by simp) (by simp;omega) s h i x hlt hx (by have:=q6 (by simp);omega) 2 (by decide);have j:cS x (P.getD x.arg.toNat 0) (P.getD (i+1) 0)=c::aS (m64 (x.arg+1)) 2:=by simp[cS,ji,T,X,eY]
   have q:=an (m64 (x.arg+1)) 2;simp only[Int.reduceToNat]at W;generalize aS (m64 (x.arg+1)) 2=R at W j q;rotate_left;have W:=fun s h=>lY id l o nl P false (bs++ [c]) t false (by simp) (by simp;omega) s h i x hlt hx 2 (by decide);have j:cS x (P.getD x.arg.toNat 0) (P.getD (i+1) 0)=c::aS (m64 x.arg) 2:=by simp[cS,ji,T,X,eY]
   have q:=an (m64 x.arg) 2;simp only[Int.reduceToNat]at W;generalize aS (m64 x.arg) 2=R at W j q;rotate_left;all_goals
    refine gO dL (j2 (j7 @n1 @n2 @ab @ax @av H F) (j8 v @a7 @K2.eq_1 @underlying3 @underlying5 n @M @al)) (j2 @L @a3) ?_;refine aj.SF (first:= [.ptr id 0]) (cap:= []) (W _ (by simp[iF,ab])) ?_ (fun _ _ h=>h.elim);rintro r2 ci ⟨ar,A,rfl,rfl⟩;simp at A;simp-implicitDefEqProofs;refine gO dL @M tI ?_;rw[j]at Y;refine aH.mk ((i+1,bs++c::R,ar)) (by(try dsimp only);omega) (gF tI) (by(try dsimp only);(intro D y_ af;by_cases e1:D=id<;>by_cases e2:D=K<;>by_cases e3:D=ar<;>by_cases e4:D=t<;>by_cases e5:D=ac<;>simp_all [AS.set,iF])) ?_;try dsimp only
    exact⟨hlt,by simp[q];omega,U,by rw[←Y];simp,by simp[A],by simp[A],by simp[A]⟩
 ·rw[List.drop_eq_nil_of_le (by omega)]at Y U;rw[e,U];simp only[fj,List.append_nil]at Y;repeat (first
   |refine g1 ?_
   |((first|refine g2 ?_ |((with_reducible apply dX 12 l0);refine dY mixed ?_));simp-implicitDefEqProofs [hlt,←Y,iF])
   |(refine g3 ?_;try simp-implicitDefEqProofs))
  intro D y_ af;by_cases e1:D=id<;>by_cases e2:D=K<;>by_cases e3:D=t<;>simp_all [AS.set]
end Cd
namespace Sg
open Tryz
def zF (r:Bool):zY:=if r=true then [16]else []
def jV (r:Bool) (i:Nat):zY:=zF r++List.replicate i 29
theorem mz (r:Bool) (i:Nat):jV r (i+1)=jV r i++ [29]:=by simp[jV,List.replicate_succ']
theorem DO (r:Bool) (i:Nat):(jV r i).length≤1+i:=by cases r<;>simp[jV,zF]<;>omega
theorem eN (t:Ty) (ht:aV t=true) (σ:AS):ad prog 82 [cB t] σ
 (gy (fun tk=> .ah 5 ((dN t).map u8) (.tok tk) false) (dN t).length σ) No:=by
 obtain⟨d0,d3,Y,X⟩:=k9 ht;obtain⟨k,x,d,Z⟩:=t;simp only at d0 d3 Y X;obtain⟨n,rfl⟩:∃n:Nat,d=n:=⟨d.toNat,by omega⟩;have ab:n≤3:=by omega
 refine ad.ob func82 ?_;simp only[aE];refine gO (S:= [2]) aa tI tI ?_;intro id u;refine gO (S:= [2]) aa tI tI ?_;refine aA.fG 3 5 [] true (by simp[ntmps82]) (.inr ⟨by simp,rfl,rfl⟩) ?_;simp-implicitDefEqProofs [ae,au];intro tk j q;have hle:∀x y,AS.le (σ.set tk x) ((σ.set id y).set tk x):=fun x y=>ao (AS.ao (lR _) u);have E:jV true 0= [16]:=rfl;cases Z
 ·refine gO aa j tI ?_;refine aA.aY (α:=(Nat)) (0) (fun i=>n-i) (fun i=>i≤n) [(1,?_),(2,?_)] (fun i=> [(4,zI i),(3,.ah 5 ((jV false i).map u8) (.tok tk) (decide (jV false i= [])))]) (fun i=>(σ.set id (.cells 49 [zI k,zI x,zI n,zB false])).set tk (.tok (jV false i).length)) ?_ ?_ ?_ ?_;rotate_left 2
  ·exact gF @E
  ·(try dsimp only);(simp[jV,zF];done)
  ·exact Nat.zero_le _
  intro i K;try dsimp only at K⊢
  obtain T:=K;simp only[fm];have U:=DO false i;have O:(jV false (i+1)).map u8=(jV false i).map u8++ [u8 29]:=by rw[mz,List.map_append];rfl
  have V:(jV false (i+1)).length=(jV false i).length+1:=by rw[mz,List.length_append];rfl
  have M:jV false (i+1)≠ []:=by rw[mz];simp
  by_cases hlt:i<n
  ·have G:zW ((i:Int)+1)=((i+1:Nat):Int):=bh (by omega);refine gO aa (j4 hlt @ae j @G) tI ?_;refine aH.mk ((i+1)) (by(try dsimp only);omega) (gF (j2 @O @M)) (by(try dsimp only);(simp[O,V,M];done)) ?_;try dsimp only
   exact hlt
  ·have Q:i=n:=by omega
   subst Q;rcases X with⟨rfl,_,h,rfl⟩|⟨rfl,rfl⟩|⟨rfl,rfl⟩|⟨rfl,rfl⟩|⟨rfl,T⟩|⟨rfl,T⟩|⟨rfl,T⟩
   ·have w:dN { kind:=1,index:=0,cT:=i,ref:=false } =jV false i++ [1]:=by simp[dN,wA,jV,zF]
    rw[w];refine gO aa (j3 hlt @ae j) tI ?_;exact aW tk q (by simp) (by simpa using hle _ _)
   ·have w:dN { kind:=2,index:=0,cT:=i,ref:=false } =jV false i++ [8]:=by simp[dN,wA,jV,zF]
    rw[w];refine gO aa (j3 hlt @ae j) tI ?_;exact aW tk q (by simp) (by simpa using hle _ _)
   ·have w:dN { kind:=3,index:=0,cT:=i,ref:=false } =jV false i++ [10]:=by simp[dN,wA,jV,zF]
    rw[w];refine gO aa (j3 hlt @ae j) tI ?_;exact aW tk q (by simp) (by simpa using hle _ _)
   ·have w:dN { kind:=4,index:=0,cT:=i,ref:=false } =jV false i++ [28]:=by simp[dN,wA,jV,zF]
    rw[w];refine gO aa (j3 hlt @ae j) tI ?_;exact aW tk q (by simp) (by simpa using hle _ _)
   ·have w:dN { kind:=5,index:=x,cT:=i,ref:=false } =jV false i++(18::bG (4*(x+1))):=by simp[dN,wA,jV,zF]
    rw[w];have L:=fun σ=>ky (4*(x+1)) (by omega) (by omega) σ;have A:(bG (4*(x+1))).length≤4:=by simp only[bG,fA,fE];split<;>(try split)<;>(try split)<;>simp
    have hw:zW (x+1)=x+1:=aI (by omega) (by omega);have F:zW (4*(x+1))=4*(x+1):=aI (by omega) (by omega);refine gO aa (j5 hlt @hw @F @ae j) @L ?_;intro v n1 n2 D;have H:=ba n1;refine gO aa (j7 @A @U @H @ae @au j @E) tI ?_;have I:∀a b c d,AS.le (σ.set tk d) ((((σ.set id a).set tk b).set v c).set tk d):=fun a b c d=>
     ao (AS.ao (AS.ao (AS.ao (lR _) u) (by simp[j,q])) (by simp[n1,n2,D]))
    have J:∀a c d,AS.le (σ.set tk d) (((σ.set id a).set tk d).set v c):=fun a c d=>AS.ao (ao (AS.ao (lR _) u)) (by simp[n1,n2,D]);have hn:∀a b:Nat,a+(b+1)=a+1+b:=fun a b=>by omega
    exact aW tk q (by simp) (by rw[hn];first|exact I _ _ _ _ |exact J _ _ _)
   ·have w:dN { kind:=6,index:=x,cT:=i,ref:=false } =jV false i++(17::bG (4*(x+1))):=by simp[dN,wA,jV,zF]
    rw[w];have L:=fun σ=>ky (4*(x+1)) (by omega) (by omega) σ;have A:(bG (4*(x+1))).length≤4:=by simp only[bG,fA,fE];split<;>(try split)<;>(try split)<;>simp
    have hw:zW (x+1)=x+1:=aI (by omega) (by omega);have F:zW (4*(x+1))=4*(x+1):=aI (by omega) (by omega);refine gO aa (j5 hlt @hw @F @ae j) @L ?_;intro v n1 n2 D;have H:=ba n1;refine gO aa (j7 @A @U @H @ae @au j @E) tI ?_;have I:∀a b c d,AS.le (σ.set tk d) ((((σ.set id a).set tk b).set v c).set tk d):=fun a b c d=>
     ao (AS.ao (AS.ao (AS.ao (lR _) u) (by simp[j,q])) (by simp[n1,n2,D]))
    have J:∀a c d,AS.le (σ.set tk d) (((σ.set id a).set tk d).set v c):=fun a c d=>AS.ao (ao (AS.ao (lR _) u)) (by simp[n1,n2,D]);have hn:∀a b:Nat,a+(b+1)=a+1+b:=fun a b=>by omega
    exact aW tk q (by simp) (by rw[hn];first|exact I _ _ _ _ |exact J _ _ _)
   ·have w:dN { kind:=7,index:=x,cT:=i,ref:=false } =jV false i++(19::bG x):=by simp[dN,wA,jV,zF]
    rw[w];have L:=fun σ=>ky x (by omega) (by omega) σ;have A:(bG x).length≤4:=by simp only[bG,fA,fE];split<;>(try split)<;>(try split)<;>simp
    refine gO aa (j3 hlt @ae j) @L ?_;intro v n1 n2 D;have H:=ba n1;refine gO aa (j7 @A @U @H @ae @au j @E) tI ?_;have I:∀a b c d,AS.le (σ.set tk d) ((((σ.set id a).set tk b).set v c).set tk d):=fun a b c d=>
     ao (AS.ao (AS.ao (AS.ao (lR _) u) (by simp[j,q])) (by simp[n1,n2,D]))
    have J:∀a c d,AS.le (σ.set tk d) (((σ.set id a).set tk d).set v c):=fun a c d=>AS.ao (ao (AS.ao (lR _) u)) (by simp[n1,n2,D]);have hn:∀a b:Nat,a+(b+1)=a+1+b:=fun a b=>by omega
    exact aW tk q (by simp) (by rw[hn];first|exact I _ _ _ _ |exact J _ _ _)
 ·refine gO aa j tI ?_;refine aA.aY (α:=(Nat)) (0) (fun i=>n-i) (fun i=>i≤n) [(1,?_),(2,?_)] (fun i=> [(4,zI i),(3,.ah 5 ((jV true i).map u8) (.tok tk) (decide (jV true i= [])))]) (fun i=>(σ.set id (.cells 49 [zI k,zI x,zI n,zB true])).set tk (.tok (jV true i).length)) ?_ ?_ ?_ ?_;rotate_left 2
  ·exact gF @E
  ·(try dsimp only);(simp[jV,zF];done)
  ·exact Nat.zero_le _
  intro i K;try dsimp only at K⊢
  obtain T:=K;simp only[fm];have U:=DO true i;have O:(jV true (i+1)).map u8=(jV true i).map u8++ [u8 29]:=by rw[mz,List.map_append];rfl
  have V:(jV true (i+1)).length=(jV true i).length+1:=by rw[mz,List.length_append];rfl
  have M:jV true (i+1)≠ []:=by rw[mz];simp
  by_cases hlt:i<n
  ·have G:zW ((i:Int)+1)=((i+1:Nat):Int):=bh (by omega);refine gO aa (j4 hlt @ae j @G) tI ?_;refine aH.mk ((i+1)) (by(try dsimp only);omega) (gF (j2 @O @M)) (by(try dsimp only);(simp[O,V,M];done)) ?_;try dsimp only
   exact hlt
  ·have Q:i=n:=by omega
   subst Q;rcases X with⟨rfl,_,h,rfl⟩|⟨rfl,rfl⟩|⟨rfl,rfl⟩|⟨rfl,rfl⟩|⟨rfl,T⟩|⟨rfl,T⟩|⟨rfl,T⟩
   ·cases h
   ·have w:dN { kind:=2,index:=0,cT:=i,ref:=true } =jV true i++ [8]:=by simp[dN,wA,jV,zF]
    rw[w];refine gO aa (j3 hlt @ae j) tI ?_;exact aW tk q (by simp) (by simpa using hle _ _)
   ·have w:dN { kind:=3,index:=0,cT:=i,ref:=true } =jV true i++ [10]:=by simp[dN,wA,jV,zF]
    rw[w];refine gO aa (j3 hlt @ae j) tI ?_;exact aW tk q (by simp) (by simpa using hle _ _)
   ·have w:dN { kind:=4,index:=0,cT:=i,ref:=true } =jV true i++ [28]:=by simp[dN,wA,jV,zF]
    rw[w];refine gO aa (j3 hlt @ae j) tI ?_;exact aW tk q (by simp) (by simpa using hle _ _)
   ·have w:dN { kind:=5,index:=x,cT:=i,ref:=true } =jV true i++(18::bG (4*(x+1))):=by simp[dN,wA,jV,zF]
    rw[w];have L:=fun σ=>ky (4*(x+1)) (by omega) (by omega) σ;have A:(bG (4*(x+1))).length≤4:=by simp only[bG,fA,fE];split<;>(try split)<;>(try split)<;>simp
    have hw:zW (x+1)=x+1:=aI (by omega) (by omega);have F:zW (4*(x+1))=4*(x+1):=aI (by omega) (by omega);refine gO aa (j5 hlt @hw @F @ae j) @L ?_;intro v n1 n2 D;have H:=ba n1;refine gO aa (j7 @A @U @H @ae @au j @E) tI ?_;have I:∀a b c d,AS.le (σ.set tk d) ((((σ.set id a).set tk b).set v c).set tk d):=fun a b c d=>
     ao (AS.ao (AS.ao (AS.ao (lR _) u) (by simp[j,q])) (by simp[n1,n2,D]))
    have J:∀a c d,AS.le (σ.set tk d) (((σ.set id a).set tk d).set v c):=fun a c d=>AS.ao (ao (AS.ao (lR _) u)) (by simp[n1,n2,D]);have hn:∀a b:Nat,a+(b+1)=a+1+b:=fun a b=>by omega
    exact aW tk q (by simp) (by rw[hn];first|exact I _ _ _ _ |exact J _ _ _)
   ·have w:dN { kind:=6,index:=x,cT:=i,ref:=true } =jV true i++(17::bG (4*(x+1))):=by simp[dN,wA,jV,zF]
    rw[w];have L:=fun σ=>ky (4*(x+1)) (by omega) (by omega) σ;have A:(bG (4*(x+1))).length≤4:=by simp only[bG,fA,fE];split<;>(try split)<;>(try split)<;>simp
    have hw:zW (x+1)=x+1:=aI (by omega) (by omega);have F:zW (4*(x+1))=4*(x+1):=aI (by omega) (by omega);refine gO aa (j5 hlt @hw @F @ae j) @L ?_;intro v n1 n2 D;have H:=ba n1;refine gO aa (j7 @A @U @H @ae @au j @E) tI ?_;have I:∀a b c d,AS.le (σ.set tk d) ((((σ.set id a).set tk b).set v c).set tk d):=fun a b c d=>
     ao (AS.ao (AS.ao (AS.ao (lR _) u) (by simp[j,q])) (by simp[n1,n2,D]))
    have J:∀a c d,AS.le (σ.set tk d) (((σ.set id a).set tk d).set v c):=fun a c d=>AS.ao (ao (AS.ao (lR _) u)) (by simp[n1,n2,D]);have hn:∀a b:Nat,a+(b+1)=a+1+b:=fun a b=>by omega
    exact aW tk q (by simp) (by rw[hn];first|exact I _ _ _ _ |exact J _ _ _)
   ·have w:dN { kind:=7,index:=x,cT:=i,ref:=true } =jV true i++(19::bG x):=by simp[dN,wA,jV,zF]
    rw[w];have L:=fun σ=>ky x (by omega) (by omega) σ;have A:(bG x).length≤4:=by simp only[bG,fA,fE];split<;>(try split)<;>(try split)<;>simp
    refine gO aa (j3 hlt @ae j) @L ?_;intro v n1 n2 D;have H:=ba n1;refine gO aa (j7 @A @U @H @ae @au j @E) tI ?_;have I:∀a b c d,AS.le (σ.set tk d) ((((σ.set id a).set tk b).set v c).set tk d):=fun a b c d=>
     ao (AS.ao (AS.ao (AS.ao (lR _) u) (by simp[j,q])) (by simp[n1,n2,D]))
    have J:∀a c d,AS.le (σ.set tk d) (((σ.set id a).set tk d).set v c):=fun a c d=>AS.ao (ao (AS.ao (lR _) u)) (by simp[n1,n2,D]);have hn:∀a b:Nat,a+(b+1)=a+1+b:=fun a b=>by omega
    exact aW tk q (by simp) (by rw[hn];first|exact I _ _ _ _ |exact J _ _ _)
def bL (b:zY):AV:= .ah 5 (b.map u8) .aJ (decide (b= []))
def bI:Except Int (zY)→zY
 |.ok l=>l
 |.error _ => []
theorem gx:AV.Wk prog .aC (bL []):=by simp[bL]
theorem po (b:zY) (o:cA) (nl:Bool) (h:nl=decide (b= [])):AV.Wk prog (.ah 5 (b.map u8) o nl) (bL b):=by subst h;exact CY _ _ _ _ |>.2 trivial
theorem EN (c:UInt8) (l:List Ty) (h:l.length≤12):∀i,i≤l.length→(∀x∈l.take i,aX x=true)→(preB c l i).length≤5+10*i:=by
 intro i;induction i with
 |zero=>intro _ _;unfold preB;rw[di _ h];simp
 |succ i n=>
  intro u j;have hlt:i<l.length:=by omega
  rw[List.take_succ_eq_append_getElem hlt]at j;rw[o5 c l hlt,List.length_append];have:=n (by omega) (fun x hx=>j x (List.mem_append.2 (.inl hx)));have h1:=j l[i] (List.mem_append.2 (.inr (List.mem_singleton.2 rfl)));have q:aV l[i]=true:=by unfold aX at h1;simp at h1;exact h1.1
  have:=ic q;omega
theorem wZ (c:UInt8) (l:List Ty) (r:Ty) (h:l.length≤12) (q:aV r=true):∀i,i≤l.length→(∀x∈l.take i,aX x=true)→(eH c l r i).length≤12+10*i:=by
 intro i;induction i with
 |zero=>intro _ _;have:=ic q;rw[iB,List.length_append,tU c l h];omega
 |succ i n=>
  intro v j;have hlt:i<l.length:=by omega
  rw[List.take_succ_eq_append_getElem hlt]at j;rw[kg c l r hlt,List.length_append];have:=n (by omega) (fun x hx=>j x (List.mem_append.2 (.inl hx)));have h1:=j l[i] (List.mem_append.2 (.inr (List.mem_singleton.2 rfl)));have u:aV l[i]=true:=by unfold aX at h1;simp at h1;exact h1.1
  have:=ic u;omega
theorem wu (l:List Ty) (o:cA) (nl:Bool) (hl:l.length≤100000) (σ:AS):ad prog 87 [.ah 49 (l.map cB) o nl] σ
 (aq (.cp [bL (bI (cD l)),zI (fW (cD l))]) σ) No:=by
 have hw:=fun t σ=>mf t 2 σ;have H:∀t,dU t 2=aX t:=fun t=>by unfold dU aX;cases aV t<;>simp
 simp only[H,aE]at hw;by_cases F:12<l.length
 ·have q:((12:Int)<l.length)=True:=eq_true (by omega);rw[show cD l= .error 4 by unfold cD;rw[if_pos F]];simp only[bI,fW];refine ad.ob func87 ?_;refine gO aa @q tI ?_;exact dt gx (Wk.refl _)
 ·have q:((12:Int)<l.length)=False:=eq_false (by omega);have Q:cD l=if l.all aX=true then .ok (L3 l)else .error 17:=by unfold cD;rw[if_neg F]
  have hu:IntKind.u8.wrap (l.length:Int)=l.length:=L5 (by omega) (by omega);refine ad.ob func87 ?_;refine gO aa @q tI ?_;intro tk w;have U:((UInt8.ofNat l.length).toNat:Int)=l.length:=by simp;omega
  have h0:preB 7 l 0= [7,UInt8.ofNat l.length]:=by simp[preB,di _ (show l.length≤12 by omega)]
  have v:(preB 7 l 0).map u8= [.sc (.int .u8 7),.sc (.int .u8 (IntKind.u8.wrap l.length))]:=by rw[h0,hu];simp only[List.map_cons,List.map_nil,u8,U];rfl
  refine gO aa tI tI ?_;refine aA.aY (α:=(Nat)) (0) (fun i=>l.length-i) (fun i=>i≤l.length∧ ∀x∈l.take i,aX x=true) [(0,?_)] (fun i=> [(5,zI i),(4,.ah 5 ((preB 7 l i).map u8) (.tok tk) false)]) (fun i=>σ.set tk (.tok (preB 7 l i).length)) ?_ ?_ ?_ ?_;rotate_left 1
  ·exact gF @v
  ·(try dsimp only);(simp[h0];done)
  ·exact⟨by omega,by simp⟩
  intro i y;try dsimp only at y⊢
  obtain⟨V,G⟩:=y;simp only[fm];by_cases hlt:i<l.length
  ·have n:zW ((i:Int)+1)=((i+1:Nat):Int):=bh (by omega);have u:=fun σ=>hw l[i] σ;cases j:aX l[i]with
   |false=>
    rw[j]at u;have D:l.all aX=false:=by rw[Bool.eq_false_iff];intro h;have:=List.all_eq_true.1 h l[i] (List.getElem_mem hlt);rw[j]at this;cases this
    rw[Q,D];simp only[Bool.false_eq_true,if_false,bI,fW];refine gO aa (j3 hlt @aE @ae) @u ?_;exact⟨dt gx (Wk.refl _),AS.ao (lR _) w⟩
   |true=>
    rw[j]at u;have A:aV l[i]=true:=by unfold aX at j;simp at j;exact j.1
    have M:∀x∈l.take (i+1),aX x=true:=by
     rw[List.take_succ_eq_append_getElem hlt];intro x hx;rcases List.mem_append.1 hx with hx|hx
     ·exact G x hx
     ·rw[List.mem_singleton.1 hx];exact j
    have O:=fun σ=>eN l[i] A σ;have S:=o5 7 l hlt;have E:(preB 7 l (i+1)).map u8=(preB 7 l i).map u8++(dN l[i]).map u8:=by rw[S,List.map_append]
    have L:(preB 7 l (i+1)).length=(preB 7 l i).length+(dN l[i]).length:=by rw[S,List.length_append]
    have J:(preB 7 l i).length≤1000:=by have:=EN 7 l (by omega) i V G;omega
    have I:=ic A;simp only[aE]at O;repeat (first
     |refine g1 ?_
     |((first|refine g2 ?_ |((with_reducible apply aj.id);first|apply aj.aL (u _)|apply aj.py (O _)));simp-implicitDefEqProofs [hlt,aE,ae,au,v,n])
     |(refine g3 ?_;try simp-implicitDefEqProofs [hlt,aE,ae,au,v,n]))
    intro T n1 X;have n2:=ba n1;refine gO aa (j8 @n1 @n2 @J @I @ae @au @v @n) tI ?_;refine aH.mk ((i+1)) (by(try dsimp only);omega) (gF @E) (by(try dsimp only);(simp[E,L];exact AS.ao (lR _) (by simp[*]))) ?_;try dsimp only
    exact⟨hlt,M⟩
  ·have K:i=l.length:=by omega
   subst K;rw[List.take_length]at G;rw[Q,List.all_eq_true.2 G];simp only[if_true,bI,fW];rw[←Dm l (by omega)];refine gO aa (j2 hlt @ae) tI ?_;exact⟨dt (po _ _ _ (by simp[preB])) (Wk.refl _),AS.ao (lR _) w⟩
theorem BU (V:Bool) (l:List Ty) (r:Ty) (o:cA) (nl:Bool) (hl:l.length≤100000) (σ:AS):
 ad prog 85 [.agg [zB V,.ah 49 (l.map cB) o nl,zI r.kind,zI r.index,zI r.cT,.sc (.bool r.ref)]] σ
 (aq (.cp [bL (bI (eS ⟨V,l,r⟩)),zI (fW (eS ⟨V,l,r⟩))]) σ) No:=by
 have hw:=fun t σ=>mf t 2 σ;have S:=fun σ=>mf r 3 σ;have a0:∀t,dU t 2=aX t:=fun t=>by unfold dU aX;cases aV t<;>simp
 have ay:dU r 3=cG r:=by unfold dU;simp
 simp only[a0,aE]at hw;simp only[ay,aE]at S;by_cases h6:6<l.length
 ·have U:((6:Int)<l.length)=True:=eq_true (by omega);rw[show eS ⟨V,l,r⟩= .error 4 by unfold eS;rw[if_pos h6]];simp only[bI,fW];refine ad.ob func85 ?_;refine gO aa tI tI ?_;intro G v;refine gO aa @U tI ?_;exact⟨dt gx (Wk.refl _),AS.ao (lR _) v⟩
 have U:((6:Int)<l.length)=False:=eq_false (by omega);have hP:eS ⟨V,l,r⟩=if (l.all aX&&cG r)=true then .ok (LB ⟨V,l,r⟩)else .error 17:=by unfold eS;rw[if_neg h6]
 have hu:IntKind.u8.wrap (l.length:Int)=l.length:=L5 (by omega) (by omega);have hz:((UInt8.ofNat l.length).toNat:Int)=l.length:=by simp;omega
 cases V
 ·refine ad.ob func85 ?_;have D:(eH 0 l r 0).map u8= .sc (.int .u8 0):: .sc (.int .u8 (IntKind.u8.wrap l.length))::(dN r).map u8:=by rw[iB,Av,di _ (show l.length≤12 by omega),hu];simp only[List.map_cons,List.map_nil,List.cons_append,List.nil_append,u8,hz];rfl
  have A:(eH 0 l r 0).length=(dN r).length+1+1:=by rw[iB,Av,di _ (show l.length≤12 by omega)];simp
  refine gO aa tI tI ?_;intro G v;refine gO aa @U tI ?_;intro tk j ar;have n:=ba j;have hle:∀x y,AS.le σ ((σ.set G x).set tk y):=fun x y=>AS.ao (AS.ao (lR _) v) (by simp[*]);cases F:cG r with
  |false=>rw[F]at S;rw[hP,F,Bool.and_false];simp only[Bool.false_eq_true,if_false,bI,fW];refine gO aa j @S ?_;exact⟨dt gx (Wk.refl _),hle _ _⟩
  |true=>
   rw[F]at S;have E:aV r=true:=by unfold cG at F;simp at F;exact F.1
   have Ia:=fun σ=>eN r E σ;have ab:=ic E;refine gO aa j (j2 @S @Ia) ?_;intro av I H h3;have Z:=ba I;have X:=ba H;refine gO aa (j8 @I @H @Z @X @ab @ae @au j) tI ?_;refine aA.aY (α:=(Nat)) (0) (fun i=>l.length-i) (fun i=>i≤l.length∧ ∀x∈l.take i,aX x=true) [(1,?_)] (fun i=> [(5,zI i),(4,.ah 5 ((eH 0 l r i).map u8) (.tok tk) false)]) (fun i=>(σ.set G (.cells 149 [zB false,.ah 49 (l.map cB) o nl,zI r.kind,zI r.index,zI r.cT,.sc (.bool r.ref)])).set tk (.tok (eH 0 l r i).length)) ?_ ?_ ?_ ?_;rotate_left 1
   ·exact gF @D
   ·(try dsimp only);(simp only[show(2:Nat)+(dN r).length=(dN r).length+1+1 by omega,A];first|exact lR _ |exact AS.ao (lR _) (by simp[*]))
   ·exact⟨by omega,by simp⟩
   intro i K;try dsimp only at K⊢
   obtain⟨hi,T⟩:=K;simp only[fm];by_cases hlt:i<l.length
   ·have u:zW ((i:Int)+1)=((i+1:Nat):Int):=bh (by omega);have w:=fun σ=>hw l[i] σ;cases q:aX l[i]with
    |false=>
     rw[q]at w;have M:l.all aX=false:=by rw[Bool.eq_false_iff];intro h;have:=List.all_eq_true.1 h l[i] (List.getElem_mem hlt);rw[q]at this;cases this
     rw[hP,M,Bool.false_and];simp only[Bool.false_eq_true,if_false,bI,fW];refine gO aa (j4 hlt @aE @ae j) @w ?_;exact⟨dt gx (Wk.refl _),hle _ _⟩
    |true=>
     rw[q]at w;have L:aV l[i]=true:=by unfold aX at q;simp at q;exact q.1
     have al:∀x∈l.take (i+1),aX x=true:=by
      rw[List.take_succ_eq_append_getElem hlt];intro x hx;rcases List.mem_append.1 hx with hx|hx
      ·exact T x hx
      ·rw[List.mem_singleton.1 hx];exact q
     have hp:=fun σ=>eN l[i] L σ;have Q:=kg 0 l r hlt;have O:(eH 0 l r (i+1)).map u8=(eH 0 l r i).map u8++(dN l[i]).map u8:=by rw[Q,List.map_append]
     have ak:(eH 0 l r (i+1)).length=(eH 0 l r i).length+(dN l[i]).length:=by rw[Q,List.length_append]
     have af:(eH 0 l r i).length≤1000:=by have:=wZ 0 l r (by omega) E i hi T;omega
     have ac:=ic L;simp only[aE]at hp;repeat (first
      |refine g1 ?_
      |((first|refine g2 ?_ |((with_reducible apply aj.id);first|apply aj.aL (w _)|apply aj.py (hp _)));simp-implicitDefEqProofs [hlt,aE,ae,au,j,n,D,A,u])
      |(refine g3 ?_;try simp-implicitDefEqProofs [hlt,aE,ae,au,j,n,D,A,u]))
     intro ax n1 J h2;have n2:=ba n1;have Y:=ba J;refine gO aa (And.intro (j7 @n1 @n2 @J @Y @af @ac @ae) (j5 @au j @D @A @u)) tI ?_;refine aH.mk ((i+1)) (by(try dsimp only);omega) (gF @O) (by(try dsimp only);(simp[O,ak];exact AS.ao (lR _) (by simp[*]))) ?_;try dsimp only
     exact⟨hlt,al⟩
   ·have ai:i=l.length:=by omega
    subst ai;rw[List.take_length]at T;rw[hP,List.all_eq_true.2 T,F];simp only[Bool.and_self,if_true,bI,fW];have Q:=tH false l r (by omega);simp only[Bool.false_eq_true,if_false,if_true]at Q;rw[←Q];refine gO aa (j3 hlt @ae j) tI ?_;exact⟨dt (po _ _ _ (by simp[eH,Av])) (Wk.refl _),hle _ _⟩
 ·refine ad.ob func85 ?_;have D:(eH 32 l r 0).map u8= .sc (.int .u8 32):: .sc (.int .u8 (IntKind.u8.wrap l.length))::(dN r).map u8:=by rw[iB,Av,di _ (show l.length≤12 by omega),hu];simp only[List.map_cons,List.map_nil,List.cons_append,List.nil_append,u8,hz];rfl
  have A:(eH 32 l r 0).length=(dN r).length+1+1:=by rw[iB,Av,di _ (show l.length≤12 by omega)];simp
  refine gO aa tI tI ?_;intro G v;refine gO aa @U tI ?_;intro tk j ar;have n:=ba j;have hle:∀x y,AS.le σ ((σ.set G x).set tk y):=fun x y=>AS.ao (AS.ao (lR _) v) (by simp[*]);cases F:cG r with
  |false=>rw[F]at S;rw[hP,F,Bool.and_false];simp only[Bool.false_eq_true,if_false,bI,fW];refine gO aa j @S ?_;exact⟨dt gx (Wk.refl _),hle _ _⟩
  |true=>
   rw[F]at S;have E:aV r=true:=by unfold cG at F;simp at F;exact F.1
   have Ia:=fun σ=>eN r E σ;have ab:=ic E;refine gO aa j (j2 @S @Ia) ?_;intro av I H h3;have Z:=ba I;have X:=ba H;refine gO aa (j8 @I @H @Z @X @ab @ae @au j) tI ?_;refine aA.aY (α:=(Nat)) (0) (fun i=>l.length-i) (fun i=>i≤l.length∧ ∀x∈l.take i,aX x=true) [(1,?_)] (fun i=> [(5,zI i),(4,.ah 5 ((eH 32 l r i).map u8) (.tok tk) false)]) (fun i=>(σ.set G (.cells 149 [zB true,.ah 49 (l.map cB) o nl,zI r.kind,zI r.index,zI r.cT,.sc (.bool r.ref)])).set tk (.tok (eH 32 l r i).length)) ?_ ?_ ?_ ?_;rotate_left 1
   ·exact gF @D
   ·(try dsimp only);(simp only[show(2:Nat)+(dN r).length=(dN r).length+1+1 by omega,A];first|exact lR _ |exact AS.ao (lR _) (by simp[*]))
   ·exact⟨by omega,by simp⟩
   intro i K;try dsimp only at K⊢
   obtain⟨hi,T⟩:=K;simp only[fm];by_cases hlt:i<l.length
   ·have u:zW ((i:Int)+1)=((i+1:Nat):Int):=bh (by omega);have w:=fun σ=>hw l[i] σ;cases q:aX l[i]with
    |false=>
     rw[q]at w;have M:l.all aX=false:=by rw[Bool.eq_false_iff];intro h;have:=List.all_eq_true.1 h l[i] (List.getElem_mem hlt);rw[q]at this;cases this
     rw[hP,M,Bool.false_and];simp only[Bool.false_eq_true,if_false,bI,fW];refine gO aa (j4 hlt @aE @ae j) @w ?_;exact⟨dt gx (Wk.refl _),hle _ _⟩
    |true=>
     rw[q]at w;have L:aV l[i]=true:=by unfold aX at q;simp at q;exact q.1
     have al:∀x∈l.take (i+1),aX x=true:=by
      rw[List.take_succ_eq_append_getElem hlt];intro x hx;rcases List.mem_append.1 hx with hx|hx
      ·exact T x hx
      ·rw[List.mem_singleton.1 hx];exact q
     have hp:=fun σ=>eN l[i] L σ;have Q:=kg 32 l r hlt;have O:(eH 32 l r (i+1)).map u8=(eH 32 l r i).map u8++(dN l[i]).map u8:=by rw[Q,List.map_append]
     have ak:(eH 32 l r (i+1)).length=(eH 32 l r i).length+(dN l[i]).length:=by rw[Q,List.length_append]
     have af:(eH 32 l r i).length≤1000:=by have:=wZ 32 l r (by omega) E i hi T;omega
     have ac:=ic L;simp only[aE]at hp;repeat (first
      |refine g1 ?_
      |((first|refine g2 ?_ |((with_reducible apply aj.id);first|apply aj.aL (w _)|apply aj.py (hp _)));simp-implicitDefEqProofs [hlt,aE,ae,au,j,n,D,A,u])
      |(refine g3 ?_;try simp-implicitDefEqProofs [hlt,aE,ae,au,j,n,D,A,u]))
     intro ax n1 J h2;have n2:=ba n1;have Y:=ba J;refine gO aa (And.intro (j7 @n1 @n2 @J @Y @af @ac @ae) (j5 @au j @D @A @u)) tI ?_;refine aH.mk ((i+1)) (by(try dsimp only);omega) (gF @O) (by(try dsimp only);(simp[O,ak];exact AS.ao (lR _) (by simp[*]))) ?_;try dsimp only
     exact⟨hlt,al⟩
   ·have ai:i=l.length:=by omega
    subst ai;rw[List.take_length]at T;rw[hP,List.all_eq_true.2 T,F];simp only[Bool.and_self,if_true,bI,fW];have Q:=tH true l r (by omega);simp only[Bool.false_eq_true,if_false,if_true]at Q;rw[←Q];refine gO aa (j3 hlt @ae j) tI ?_;exact⟨dt (po _ _ _ (by simp[eH,Av])) (Wk.refl _),hle _ _⟩
end Sg
namespace Im
open Tryz
abbrev ya:dW:=(.S 0 (.S 1 (.S 2 (.S 3 (.S 5 (.S 6 (.S 7 (.S 8 (.S 9 (.S 11 (.S 14 (.S 15 (.R 10 (.S 12 (.R 13 (.A 4 (.A 16 (.S 17 (.A 18 .D .Z)) .Z) (.A 16 (.R 4 (.S 17 (.A 18 .D .Z))) .Z)))))))))))))))))
open Sg (aE bL)
open Pl (sV)
theorem le_eq {a b:AS}(h:a=b):AS.le a b:=h ▸ lR _
theorem iM {σ τ:AS}{i:Nat}{b:cL}(h:AS.le σ τ):AS.le (σ.set i b) (τ.set i b):=by
 intro j x hx;by_cases e:j=i
 ·subst e;simpa[AS.set]using hx
 ·rw[AS.ag _ _ e]at hx⊢;exact h j x hx
theorem oX (n:Nat) (h:n≤1000000):zW (((n+1:Nat):Int)-1)=n:=by rw[show((n+1:Nat):Int)-1=n by omega];exact aI (by omega) (by omega)
theorem GJ (s:zY) (l:List (zY)) (aF tk:Nat) (c0 G F E D A y c7 w u q n:AV) (hl:l.length≤100000) (σ:AS)
 (h:σ aF=some (.cells 74 [c0,G,F,E,D,A,y,c7,.ah 9 (l.map sV) (.tok tk) (decide (l= [])),w,u,q,n]))
 (v:σ tk=some (.tok l.length)):
 ad prog 60 [.ptr aF 0,sV s] σ (aq (zI l.length)
  ((σ.set aF (.cells 74 [c0,G,F,E,D,A,y,c7,.ah 9 ((l++ [s]).map sV) (.tok tk) false,w,u,q,n])).set tk (.tok (l.length+1)))) No:=by
 have j:¬aF=tk:=nq h v;have hw:=oX l.length (by omega);simp only[sV];refine ad.ob func60 ?_;refine gO aa (j3 j @h @v) tI ?_;refine⟨du (by rw[aI (by omega) (by omega)]),le_eq ?_⟩;rw[AS.set_comm j];simp[sV]
theorem GQ (s:zY) (e:Int) (l:List (zY)) (aF tk:Nat) (c0 G F E D A y c7 w u q n:AV) (hl:l.length≤100000) (σ:AS)
 (h:σ aF=some (.cells 74 [c0,G,F,E,D,A,y,c7,w,.ah 30 (l.map bL) (.tok tk) (decide (l= [])),u,q,n]))
 (v:σ tk=some (.tok l.length)):
 ad prog 61 [.ptr aF 0,bL s,zI e] σ (aq (zI l.length)
  ((σ.set aF (.cells 74 [c0,G,F,E,D,A,y,c7,w,.ah 30 ((l++ [s]).map bL) (.tok tk) false,u,q,n])).set tk (.tok (l.length+1)))) No:=by
 have j:¬aF=tk:=nq h v;have hw:=oX l.length (by omega);simp only[bL];refine ad.ob func61 ?_;refine gO aa (j3 j @h @v) tI ?_;refine⟨du (by rw[aI (by omega) (by omega)]),le_eq ?_⟩;rw[AS.set_comm j];simp[bL]
theorem Jr (t i w:Nat) (rs R:List AV) (aF bj tk:Nat) (c0 U T S Q O M c7 L K G F:AV) (nl:Bool) (hl:rs.length≤100000) (I:R.length=6) (σ:AS)
 (h:σ aF=some (.cells 74 [c0,U,T,S,Q,O,M,c7,L,K,G,F,.dg bj 0 6 6])) (A:σ bj=some (.cells 94 R))
 (ht:R[t]? =some (.ah 44 rs (.tok tk) nl)) (D:σ tk=some (.tok rs.length)):
 ad prog 59 [.ptr aF 0,zI t,.dg i 0 w w] σ (aq (.cp [])
  ((σ.set bj (.cells 94 (R.set t (.ah 44 (rs++ [.dg i 0 w w]) (.tok tk) false)))).set tk (.tok (rs.length+1)))) No:=by
 have q:¬aF=tk:=nq h D;have y:=ba q;have u:¬bj=tk:=nq A D;have n:=ba u;have j:¬aF=bj:=nq A h;have v:=ba j;obtain⟨hlt,H⟩:=List.getElem?_eq_some_iff.1 ht;have J:t<6:=by omega
 have E:R.take t++ .ah 44 (rs++ [.dg i 0 w w]) (.tok tk) false::R.drop (t+1)=R.set t (.ah 44 (rs++ [.dg i 0 w w]) (.tok tk) false):=by rw[List.set_eq_take_append_cons_drop,if_pos hlt]
 refine ad.ob func59 ?_
 repeat' (first
  |refine g1 ?_
  |((first|refine g2 ?_ |((with_reducible apply dX 0 ya);refine dY mixed ?_));simp-implicitDefEqProofs [hl,q,y,u,n,j,v,h,A,D,ht,H,hlt,J,I])
  |trivial
  |(with_reducible apply j2)
  |((with_reducible first|apply aA.ret|apply aA.skip|apply aA.exit);try simp-implicitDefEqProofs [hl,q,y,u,n,j,v,h,A,D,ht,H,hlt,J,I]))
 all_goals
  rw[E,AS.set_comm n];exact lR _
def F7 (p:Nat×List Int):AV:= .dg p.1 0 p.2.length p.2.length
theorem JF (p:Nat×List Int):F7 p= .dg p.1 0 p.2.length p.2.length:=rfl
def MF (p:Nat×List Int):cL:= .cells 3 (p.2.map bg)
def mL:List (Nat×List Int)→AS→AS
 |[],σ=>σ
 |p::r,σ=>mL r (σ.set p.1 (MF p))
theorem ep {j:Nat} :∀ {X:List (Nat×List Int)}{σ:AS},(∀p∈X,p.1≠j)→mL X σ j=σ j
 |[],_,_ =>rfl
 |p::r,σ,h=>by rw[mL,ep (fun q n=>h q (by simp[n]))];exact AS.ag _ _ (fun e=>h p (by simp) e.symm)
theorem wR (p:Nat×List Int):∀(X:List (Nat×List Int)) (σ:AS),mL (X++ [p]) σ=(mL X σ).set p.1 (MF p)
 |[],_ =>rfl
 |q::r,σ=>by rw[List.cons_append,mL,wR p r,mL]
def xd (c:Nat) (P:List Int) (p:Nat×List Int):Nat×List Int:=(p.1,p.2.set c (P.getD (p.2.getD c 0).toNat 0))
theorem Hl (t c:Nat) (X:List (Nat×List Int)) (P:List Int) (R:List AV) (aF bj:Nat) (o:cA) (nl:Bool) (op:cA) (np:Bool) (c0 c1 c2 c3 c4 c5 c6 c7 c8 c9 L K:AV) (hl:X.length≤100000) (U:R.length=6) (hP:P.length≤100000) (σ:AS)
 (h:σ aF=some (.cells 74 [c0,c1,c2,c3,c4,c5,c6,c7,c8,c9,L,K,.dg bj 0 6 6])) (M:σ bj=some (.cells 94 R))
 (ht:R[t]? =some (.ah 44 (X.map F7) o nl)) (T:∀p∈X,σ p.1=some (MF p)∧c<p.2.length∧0≤p.2.getD c 0∧(p.2.getD c 0).toNat<P.length∧p.2.length≤1000) (V:(X.map (·.1)).Nodup):
 ad prog 31 [.ptr aF 0,zI t,zI c,.ah 3 (P.map bg) op np] σ (aq (.cp []) (mL (X.map (xd c P)) σ)) No:=by
 obtain⟨hlt,S⟩:=List.getElem?_eq_some_iff.1 ht;have Y:t<6:=by omega
 refine ad.ob func31 ?_;refine gO aa (j5 @h @M @S @Y @U) tI ?_;refine aA.aY (α:=(Nat)) (0) (fun k=>X.length-k) (fun k=>k≤X.length) [(2,?_),(3,?_),(17,?_),(18,?_)] (fun k=> [(19,zI k)]) (fun k=>mL ((X.map (xd c P)).take k) σ) ?_ ?_ ?_ ?_;rotate_left 4
 ·exact gF tI
 ·(try dsimp only);exact lR _
 ·(try dsimp only)<;>first|exact trivial|exact⟨by omega,rfl⟩|omega|(simp;done)|exact⟨by omega,by simp⟩|exact⟨by omega,by simp,rfl⟩
 intro k D;try dsimp only at D⊢
 obtain hk:=D;simp only[fm];by_cases y:k<X.length
 ·have A:zW ((k:Int)+1)=((k+1:Nat):Int):=bh (by omega);have hx:=T X[k] (List.getElem_mem y);have u:mL ((X.map (xd c P)).take k) σ X[k].1=σ X[k].1:=ep (fun q O=>by obtain⟨j,Q,rfl⟩:=List.mem_take_iff_getElem.1 O;simp only[List.getElem_map,xd];intro e;simp at Q;have:=(List.pairwise_iff_getElem.1 V) j k (by simp;omega) (by simp;omega) (by omega);simp at this;exact this e);have w:mL ((X.map (xd c P)).take (k+1)) σ=(mL ((X.map (xd c P)).take k) σ).set X[k].1 (MF (xd c P X[k])):=by rw[List.take_succ_eq_append_getElem (by simpa using y),wR];simp[xd]
  generalize I:X[k]=pk at hx u w;obtain⟨id,vs⟩:=pk;simp only[xd,MF]at hx u w;rw[hx.1]at u;obtain⟨_,h1,Z,G,h4⟩:=hx;have E:vs[c]? =some (vs.getD c 0):=by rw[List.getD_eq_getElem?_getD,List.getElem?_eq_getElem h1];rfl
  generalize vs.getD c 0=v at Z G w E;obtain⟨n,rfl⟩:∃n:Nat,v=n:=⟨v.toNat,by omega⟩;simp only[Int.toNat_natCast]at G w;have F:P[n]? =some (P.getD n 0):=by rw[List.getD_eq_getElem?_getD,List.getElem?_eq_getElem G];rfl
  generalize P.getD n 0=pv at F w;obtain⟨_,H⟩:=List.getElem?_eq_some_iff.1 E;obtain⟨_,J⟩:=List.getElem?_eq_some_iff.1 F;refine gO aa (j2 (j7 @y @I @JF @u @h1 @H @G) (j4 @J @aG @ae @A)) tI ?_;refine aH.mk (k+1) (by(try dsimp only);omega) (gF tI) (by(try dsimp only);(rw[w];refine le_eq ?_;congr 2;rw[←aG,←List.map_take,←List.map_drop,←List.map_cons,←List.map_append,List.set_eq_take_append_cons_drop,if_pos h1])) ?_;try dsimp only
  exact y
 ·refine gO aa (j2 @y @ae) tI ?_;rw[List.take_of_length_le (by simp;omega)];exact lR _
end Im
end Go.Proofs.YtknalmoackcpbaaGreat
