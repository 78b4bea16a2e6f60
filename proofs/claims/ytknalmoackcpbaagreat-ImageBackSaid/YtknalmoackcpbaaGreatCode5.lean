/- Package code: Encode. -/
import Derived.Test.YtknalmoackcpbaaGreatReg4
set_option maxRecDepth 100000
set_option maxHeartbeats 3200000
set_option linter.all false
namespace Go.Proofs.YtknalmoackcpbaaGreat
namespace Cd
open Go Go.AW
abbrev nI:b7:=(.step 0 (.step 1 (.step 2 (.step 3 (.step 5 (.read 4 (.read 6 (.step 7 (.step 8 (.alt 9 (.step 10 (.step 11 (.alt 12 .done .none))) .none))))))))))
theorem aL (S:List Nat):aH Tryz.prog [(12,nI)] S:=mixed
def UW (p:List UInt8×Int):AV:= .bQ [.an 5 (p.1.map u8) .aE (decide (p.1= [])),.sc (.int .i64 p.2)]
def xz (id:Nat):bN:= .cells 315 [.sc .nilFunc,.fn (.func 235) [.ptr id 0] [],.fn (.func 235) [.ptr id 0] [],.fn (.func 235) [.ptr id 0] [],.fn (.func 235) [.ptr id 0] [],.fn (.func 236) [.ptr id 0] [],.fn (.func 237) [.ptr id 0] [],.fn (.func 237) [.ptr id 0] [],.fn (.func 235) [.ptr id 0] []]
theorem xp (l:List db) (o:cL) (nl:Bool) (hl:l.length≤140737488355328) (σ:AS):
 aa Tryz.prog 187 [rj l o nl] σ (ao (UW (eH l)) σ) No:=by
 have hp:=fun σ=>rQ l o nl hl σ;simp only[rj,u0,UW]at hp⊢;by_cases av:(cz l).2=0;rotate_left
 ·have e:eH l=([],(cz l).2):=by unfold eH;rw[if_neg av]
  have e1:=BG av;rw[e];rw[e1]at hp;generalize (cz l).2=pe at*;refine aa.ob Tryz.func187 ?_;exact gE aL @av @hp
 obtain⟨hlen,b4,ca⟩:=wE av;have e:eH l=if l.any (mQ l.length)then([],11)else(iD (aM l 0) l 0,0):=by unfold eH;rw[if_pos av]
 have b6:=oE l 0;have ch:∀y∈aM l 0,0≤y∧y≤10000:=fun y hy=>⟨qE l 0 y hy,by have:=qD l 0 y hy;omega⟩;have ck:¬aM l 0= []:=by intro e;rw[e]at b6;simp at b6
 rw[ca]at hp;simp only[ck,decide_false]at hp;generalize aM l 0=P at*;have bv:∀x∈l,gn x=true:=by simpa using b4
 have cc:=fun x σ=>As x σ;refine aa.ob Tryz.func187 ?_;refine gO (S:= [5]) aL tI @hp ?_;intro id c3;refine gO aL tI tI ?_;intro K g ce;have al:=aA g;refine ae.pO id 2 5 [] true (ty:=313) (cs:= [.an 110 (l.map aJ) o nl,.an 3 (P.map aV) .aE false,.ai]) (by simp[al]) (by simp) (.inr ⟨by simp,rfl,rfl⟩) ?_;simp-implicitDefEqProofs [g];intro tk J O a9;have ar:=aA O;have am:=aA J;refine gO aL tI tI ?_;refine ae.bp (α:=(Nat)×(List UInt8)×(Nat)) ((0,[],tk)) (fun⟨i,M,t⟩=>l.length-i) (fun⟨i,M,t⟩=>i≤l.length∧M.length≤9*i∧l.any (mQ l.length)=(l.drop i).any (mQ l.length)∧M++iD P (l.drop i) i=iD P l 0∧σ t=none∧ ¬t=id∧ ¬t=K) [(0,?_),(6,?_),(7,?_),(42,?_),(43,?_)] (fun⟨i,M,t⟩=> [(44,.sc (.int .i64 i))]) (fun⟨i,M,t⟩=>((σ.set K (xz id)).set t (.tok M.length)).set id (Sy l o nl P false M t (decide (M= [])))) ?_ ?_ ?_ ?_;rotate_left 5
 ·exact gF tI
 ·(try dsimp only);(intro n y_ U;by_cases e1:n=id<;>by_cases e2:n=K<;>by_cases e3:n=tk<;>simp_all [AS.set,bO,xz])
 ·exact⟨by omega,by simp,rfl,rfl,a9,O,J⟩
 intro x_ b2;obtain⟨i,M,t⟩:=x_;try dsimp only at b2⊢
 obtain⟨hi,c7,hF,T,cd,q,ac⟩:=b2;simp only[gj];clear a9 O J ar am;have D:=aA q;have u:=aA ac;by_cases j:i<l.length
 ·have A:IntKind.i64.wrap ((i:Int)+1)=((i+1:Nat):Int):=cv (by omega);rw[List.drop_eq_getElem_cons j]at hF T;have L:=cc l[i];have b3:=bv l[i] (List.getElem_mem j);generalize Z:l[i]=x at*;rw[b3]at L;simp only[List.any_cons,iD]at hF T;obtain⟨r1,r2,r3,q0,q1,q3,q5,q6,q8⟩:=oB b3;have V:=fun σ=>qP (oO x.op) σ;have c6:=kM x.op;have Q:aJ x= .agg [.sc (.int .i64 x.op),.sc (.int .i64 x.arg),.sc (.int .i64 x.t.kind),.sc (.int .i64 x.t.index),.sc (.int .i64 x.t.bt),.sc (.bool x.t.ref)]:=rfl;rw[Q]at L;by_cases af:mQ l.length x=true
  ·have h5:oO x.op=5:=by simp[mQ]at af;exact af.1
   have b0:((l.length:Int)≤x.arg)=True:=eq_true (by simp[mQ]at af;exact af.2);rw[af]at hF;simp only[Bool.true_or]at hF;rw[e,hF];rw[h5]at L;refine gO aL (j5 j @Z @Q @bO @aI) tI ?_;intro G n1 n2 Y F;refine gO aL @b0 @L ?_;all_goals (repeat' (with_reducible apply j2))
   all_goals exact gL tI
  ·have b5:mQ l.length x=false:=by simpa using af
   rw[b5]at hF;simp only[Bool.false_or]at hF;obtain⟨c,hc⟩:∃c:UInt8,UInt8.ofNat (x.op%256).toNat=c:=⟨_,rfl⟩;have X:IntKind.u8.wrap x.op=(c.toNat:Int):=by rw[A6,←hc];simp;omega
   have c2:M.length≤1440:=by omega
   have cj:i+1<P.length:=by omega
   have ci:P.length≤1000:=by omega
   generalize ho:oO x.op=xo at*;have cb:xo=0∨xo=1∨xo=2∨xo=3∨xo=4∨xo=5∨xo=6∨xo=7∨xo=8:=by omega
   rcases cb with rfl|rfl|rfl|rfl|rfl|rfl|rfl|rfl|rfl
   ·refine gO aL (j5 j @Z @Q @bO @aI) tI ?_;intro G n1 n2 Y F;have w:=aA n1;have I:=aA n2;have H:=aA Y;refine gO aL (j2 (j7 @n1 @n2 @w @I @H D u) (j7 q @X @xz.eq_1 @Tryz.underlying3 @Tryz.underlying5 g @A)) (j2 @L @V) ?_;have v:dZ x (P.getD x.arg.toNat 0) (P.getD (i+1) 0)= [c]:=by simp[dZ,nL,ho,hc]
    rw[v]at T;refine aP.mk ((i+1,M++ [c],t)) (by(try dsimp only);omega) (gF tI) (by(try dsimp only);(intro n y_ U;by_cases e1:n=id<;>by_cases e2:n=K<;>by_cases e4:n=t<;>by_cases e5:n=G<;>simp_all [AS.set])) ?_;try dsimp only
    exact⟨j,by simp;omega,hF,by rw[←T];simp,cd,q,ac⟩
   ·refine gO aL (j5 j @Z @Q @bO @aI) tI ?_;intro G n1 n2 Y F;have w:=aA n1;have I:=aA n2;have H:=aA Y;refine gO aL (j2 (j7 @n1 @n2 @w @I @H D u) (j7 q @X @xz.eq_1 @Tryz.underlying3 @Tryz.underlying5 g @A)) (j2 @L @V) ?_;refine ag.Cb (first:= [.ptr id 0]) (cap:= []) (nH id l o nl P false (M++ [c]) t false (by simp) (by simp;omega) _ (by simp[bO,w]) i x j Z 4 (by decide)) ?_ (fun _ _ h=>h.elim);rintro r2 σ2 ⟨E,d,rfl,rfl⟩;simp at d;simp-implicitDefEqProofs;refine gO aL @A tI ?_;have v:dZ x (P.getD x.arg.toNat 0) (P.getD (i+1) 0)=c::bg (m64 x.arg) 4:=by simp[dZ,nL,ho,hc,dk]
    rw[v]at T;refine aP.mk ((i+1,M++c::bg (m64 x.arg) 4,E)) (by(try dsimp only);omega) (gF tI) (by(try dsimp only);(intro n y_ U;by_cases e1:n=id<;>by_cases e2:n=K<;>by_cases e3:n=E<;>by_cases e4:n=t<;>by_cases e5:n=G<;>simp_all [AS.set,bO,ax])) ?_;try dsimp only
    exact⟨j,by simp[ax];omega,hF,by rw[←T];simp,by simp[d],by simp[d],by simp[d]⟩
   ·refine gO aL (j5 j @Z @Q @bO @aI) tI ?_;intro G n1 n2 Y F;have w:=aA n1;have I:=aA n2;have H:=aA Y;refine gO aL (j2 (j7 @n1 @n2 @w @I @H D u) (j7 q @X @xz.eq_1 @Tryz.underlying3 @Tryz.underlying5 g @A)) (j2 @L @V) ?_;refine ag.Cb (first:= [.ptr id 0]) (cap:= []) (nH id l o nl P false (M++ [c]) t false (by simp) (by simp;omega) _ (by simp[bO,w]) i x j Z 8 (by decide)) ?_ (fun _ _ h=>h.elim);rintro r2 σ2 ⟨E,d,rfl,rfl⟩;simp at d;simp-implicitDefEqProofs;refine gO aL @A tI ?_;have v:dZ x (P.getD x.arg.toNat 0) (P.getD (i+1) 0)=c::bg (m64 x.arg) 8:=by simp[dZ,nL,ho,hc,dk]
    rw[v]at T;refine aP.mk ((i+1,M++c::bg (m64 x.arg) 8,E)) (by(try dsimp only);omega) (gF tI) (by(try dsimp only);(intro n y_ U;by_cases e1:n=id<;>by_cases e2:n=K<;>by_cases e3:n=E<;>by_cases e4:n=t<;>by_cases e5:n=G<;>simp_all [AS.set,bO,ax])) ?_;try dsimp only
    exact⟨j,by simp[ax];omega,hF,by rw[←T];simp,by simp[d],by simp[d],by simp[d]⟩
   ·refine gO aL (j5 j @Z @Q @bO @aI) tI ?_;intro G n1 n2 Y F;have w:=aA n1;have I:=aA n2;have H:=aA Y;refine gO aL (j2 (j7 @n1 @n2 @w @I @H D u) (j7 q @X @xz.eq_1 @Tryz.underlying3 @Tryz.underlying5 g @A)) (j2 @L @V) ?_;refine ag.Cb (first:= [.ptr id 0]) (cap:= []) (nH id l o nl P false (M++ [c]) t false (by simp) (by simp;omega) _ (by simp[bO,w]) i x j Z 1 (by decide)) ?_ (fun _ _ h=>h.elim);rintro r2 σ2 ⟨E,d,rfl,rfl⟩;simp at d;simp-implicitDefEqProofs;refine gO aL @A tI ?_;have v:dZ x (P.getD x.arg.toNat 0) (P.getD (i+1) 0)=c::bg (m64 x.arg) 1:=by simp[dZ,nL,ho,hc,dk]
    rw[v]at T;refine aP.mk ((i+1,M++c::bg (m64 x.arg) 1,E)) (by(try dsimp only);omega) (gF tI) (by(try dsimp only);(intro n y_ U;by_cases e1:n=id<;>by_cases e2:n=K<;>by_cases e3:n=E<;>by_cases e4:n=t<;>by_cases e5:n=G<;>simp_all [AS.set,bO,ax])) ?_;try dsimp only
    exact⟨j,by simp[ax];omega,hF,by rw[←T];simp,by simp[d],by simp[d],by simp[d]⟩
   ·refine gO aL (j5 j @Z @Q @bO @aI) tI ?_;intro G n1 n2 Y F;have w:=aA n1;have I:=aA n2;have H:=aA Y;refine gO aL (j2 (j7 @n1 @n2 @w @I @H D u) (j7 q @X @xz.eq_1 @Tryz.underlying3 @Tryz.underlying5 g @A)) (j2 @L @V) ?_;refine ag.Cb (first:= [.ptr id 0]) (cap:= []) (nH id l o nl P false (M++ [c]) t false (by simp) (by simp;omega) _ (by simp[bO,w]) i x j Z 1 (by decide)) ?_ (fun _ _ h=>h.elim);rintro r2 σ2 ⟨E,d,rfl,rfl⟩;simp at d;simp-implicitDefEqProofs;refine gO aL @A tI ?_;have v:dZ x (P.getD x.arg.toNat 0) (P.getD (i+1) 0)=c::bg (m64 x.arg) 1:=by simp[dZ,nL,ho,hc,dk]
    rw[v]at T;refine aP.mk ((i+1,M++c::bg (m64 x.arg) 1,E)) (by(try dsimp only);omega) (gF tI) (by(try dsimp only);(intro n y_ U;by_cases e1:n=id<;>by_cases e2:n=K<;>by_cases e3:n=E<;>by_cases e4:n=t<;>by_cases e5:n=G<;>simp_all [AS.set,bO,ax])) ?_;try dsimp only
    exact⟨j,by simp[ax];omega,hF,by rw[←T];simp,by simp[d],by simp[d],by simp[d]⟩
   ·refine gO aL (j5 j @Z @Q @bO @aI) tI ?_;intro G n1 n2 Y F;have b0:((l.length:Int)≤x.arg)=False:=eq_false (by simp[mQ,ho]at af;omega);have w:=aA n1;have I:=aA n2;have H:=aA Y;refine gO aL (j2 (j7 @n1 @n2 @w @I @H D u) (j7 q @b0 @X @xz.eq_1 @Tryz.underlying3 @Tryz.underlying5 g)) (j2 @L @V) ?_;obtain⟨a1,a2⟩:=q5 rfl;refine ag.Cb (first:= [.ptr id 0]) (cap:= []) (F8 id l o nl P false (M++ [c]) t false (by simp) (by simp;omega) _ (by simp[bO,w]) i x j Z ch a1 (by simp[mQ,ho]at af;omega) cj ci 2 (by decide)) ?_ (fun _ _ h=>h.elim);rintro r2 σ2 ⟨E,d,rfl,rfl⟩;simp at d;simp-implicitDefEqProofs;refine gO aL @A tI ?_;have v:dZ x (P.getD x.arg.toNat 0) (P.getD (i+1) 0)=c::bg (m64 (P.getD x.arg.toNat 0-P.getD (i+1) 0)) 2:=by simp[dZ,nL,ho,hc]
    rw[v]at T;refine aP.mk ((i+1,M++c::bg (m64 (P.getD x.arg.toNat 0-P.getD (i+1) 0)) 2,E)) (by(try dsimp only);omega) (gF tI) (by(try dsimp only);(intro n y_ U;by_cases e1:n=id<;>by_cases e2:n=K<;>by_cases e3:n=E<;>by_cases e4:n=t<;>by_cases e5:n=G<;>simp_all [AS.set,bO,ax])) ?_;try dsimp only
    exact⟨j,by simp[ax];omega,hF,by rw[←T];simp,by simp[d],by simp[d],by simp[d]⟩
   ·refine gO aL (j5 j @Z @Q @bO @aI) tI ?_;intro G n1 n2 Y F;have w:=aA n1;have I:=aA n2;have H:=aA Y;refine gO aL (j2 (j7 @n1 @n2 @w @I @H D u) (j7 q @X @xz.eq_1 @Tryz.underlying3 @Tryz.underlying5 g @A)) (j2 @L @V) ?_;refine ag.Cb (first:= [.ptr id 0]) (cap:= []) (vp id l o nl P false (M++ [c]) t false (by simp) (by simp;omega) _ (by simp[bO,w]) i x j Z (by have:=q6 (by simp);omega) 2 (by decide)) ?_ (fun _ _ h=>h.elim);rintro r2 σ2 ⟨E,d,rfl,rfl⟩;simp at d;simp-implicitDefEqProofs;refine gO aL @A tI ?_;have v:dZ x (P.getD x.arg.toNat 0) (P.getD (i+1) 0)=c::bg (m64 (x.arg+1)) 2:=by simp[dZ,nL,ho,hc]
    rw[v]at T;refine aP.mk ((i+1,M++c::bg (m64 (x.arg+1)) 2,E)) (by(try dsimp only);omega) (gF tI) (by(try dsimp only);(intro n y_ U;by_cases e1:n=id<;>by_cases e2:n=K<;>by_cases e3:n=E<;>by_cases e4:n=t<;>by_cases e5:n=G<;>simp_all [AS.set,bO,ax])) ?_;try dsimp only
    exact⟨j,by simp[ax];omega,hF,by rw[←T];simp,by simp[d],by simp[d],by simp[d]⟩
   ·refine gO aL (j5 j @Z @Q @bO @aI) tI ?_;intro G n1 n2 Y F;have w:=aA n1;have I:=aA n2;have H:=aA Y;refine gO aL (j2 (j7 @n1 @n2 @w @I @H D u) (j7 q @X @xz.eq_1 @Tryz.underlying3 @Tryz.underlying5 g @A)) (j2 @L @V) ?_;refine ag.Cb (first:= [.ptr id 0]) (cap:= []) (vp id l o nl P false (M++ [c]) t false (by simp) (by simp;omega) _ (by simp[bO,w]) i x j Z (by have:=q6 (by simp);omega) 2 (by decide)) ?_ (fun _ _ h=>h.elim);rintro r2 σ2 ⟨E,d,rfl,rfl⟩;simp at d;simp-implicitDefEqProofs;refine gO aL @A tI ?_;have v:dZ x (P.getD x.arg.toNat 0) (P.getD (i+1) 0)=c::bg (m64 (x.arg+1)) 2:=by simp[dZ,nL,ho,hc]
    rw[v]at T;refine aP.mk ((i+1,M++c::bg (m64 (x.arg+1)) 2,E)) (by(try dsimp only);omega) (gF tI) (by(try dsimp only);(intro n y_ U;by_cases e1:n=id<;>by_cases e2:n=K<;>by_cases e3:n=E<;>by_cases e4:n=t<;>by_cases e5:n=G<;>simp_all [AS.set,bO,ax])) ?_;try dsimp only
    exact⟨j,by simp[ax];omega,hF,by rw[←T];simp,by simp[d],by simp[d],by simp[d]⟩
   ·refine gO aL (j5 j @Z @Q @bO @aI) tI ?_;intro G n1 n2 Y F;have w:=aA n1;have I:=aA n2;have H:=aA Y;refine gO aL (j2 (j7 @n1 @n2 @w @I @H D u) (j7 q @X @xz.eq_1 @Tryz.underlying3 @Tryz.underlying5 g @A)) (j2 @L @V) ?_;refine ag.Cb (first:= [.ptr id 0]) (cap:= []) (nH id l o nl P false (M++ [c]) t false (by simp) (by simp;omega) _ (by simp[bO,w]) i x j Z 2 (by decide)) ?_ (fun _ _ h=>h.elim);rintro r2 σ2 ⟨E,d,rfl,rfl⟩;simp at d;simp-implicitDefEqProofs;refine gO aL @A tI ?_;have v:dZ x (P.getD x.arg.toNat 0) (P.getD (i+1) 0)=c::bg (m64 x.arg) 2:=by simp[dZ,nL,ho,hc,dk]
    rw[v]at T;refine aP.mk ((i+1,M++c::bg (m64 x.arg) 2,E)) (by(try dsimp only);omega) (gF tI) (by(try dsimp only);(intro n y_ U;by_cases e1:n=id<;>by_cases e2:n=K<;>by_cases e3:n=E<;>by_cases e4:n=t<;>by_cases e5:n=G<;>simp_all [AS.set,bO,ax])) ?_;try dsimp only
    exact⟨j,by simp[ax];omega,hF,by rw[←T];simp,by simp[d],by simp[d],by simp[d]⟩
 ·rw[List.drop_eq_nil_of_le (by omega)]at T hF;rw[e,hF];simp only[iD,List.append_nil]at T;repeat (first
   |(with_reducible first|apply ae.seq|apply ae.block|refine j2 (by first|omega|assumption|decide) ?_)
   |((first|(with_reducible first|apply ae.fork|apply ae.region|show aN _ _ _ |show aB _ _ _ _ _ _ _ _ _)|((with_reducible apply ae.aR (id:=12) (t:=nI));(exact mixed);kernel_rfl;kernel_rfl;(repeat (with_reducible first|apply ak.then|apply ak.block|apply ak.body|apply ak.no))));simp-implicitDefEqProofs [j,←T,bO])
   |((with_reducible first|apply ae.ret|apply ae.skip|apply ae.exit);try simp-implicitDefEqProofs))
  intro n y_ U;by_cases e1:n=id<;>by_cases e2:n=K<;>by_cases e3:n=t<;>simp_all [AS.set]
theorem gf (S:List Nat):aH Tryz.prog [] S:=mixed
theorem MI (x:Int) (σ:AS):aa Tryz.prog 277 [.sc (.int .i64 x)] σ (ao (.sc (.bool false)) σ) No:=by refine aa.ob Tryz.func277 ?_;exact gE gf tI tI
theorem EN (x:Int) (σ:AS):aa Tryz.prog 274 [.sc (.int .i64 x)] σ (ao (.sc (.bool false)) σ) No:=by refine aa.ob Tryz.func274 ?_;exact gE gf tI tI
theorem Mc (x y:Int) (σ:AS):aa Tryz.prog 273 [.sc (.int .i64 x),.sc (.int .i64 y)] σ (ao (.sc (.bool (decide (x<y)))) σ) No:=by refine aa.ob Tryz.func273 ?_;exact gE gf tI @MI
theorem Nx (l:List Int) (t:Int) (i:l.Pairwise (· < ·)):∃p:Nat,p≤l.length∧(∀j (h:j<l.length),l[j]<t↔j<p):=by
 induction l with
 |nil=>exact⟨0,by simp,fun j h=>by simp at h⟩
 |cons a r g=>
  obtain⟨h1,o⟩:=List.pairwise_cons.1 i;obtain⟨p,q,n⟩:=g o;by_cases ha:a<t
  ·refine⟨p+1,by simp;omega,fun j d=> ?_⟩;cases j with
   |zero=>simp[ha]
   |succ j=>simpa using n j (by simpa using d)
  ·refine⟨0,by simp,fun j d=> ?_⟩;cases j with
   |zero=>simp;omega
   |succ j=>have:=h1 _ (List.getElem_mem (show j<r.length by simpa using d));simp;omega
theorem Fu (l:List Int) (t:Int) (u:l.Pairwise (· < ·)) (p:Nat) (g:∀j (h:j<l.length),l[j]<t↔j<p):l.findIdx? (fun y=>decide (y=t))=if l[p]? =some t then some p else none:=by
 split
 ·rename_i h;obtain⟨h1,n⟩:=List.getElem?_eq_some_iff.1 h;rw[List.findIdx?_eq_some_iff_getElem];refine⟨h1,by simp[n],fun j d=> ?_⟩;have:=(g j (by omega)).2 d;simp;omega
 ·rename_i h;rw[List.findIdx?_eq_none_iff];intro x o;obtain⟨j,d,rfl⟩:=List.mem_iff_getElem.1 o;simp;intro e;apply h;have h1:=(g j d);have n:¬j<p:=fun q=>by have:=h1.2 q;omega
  rcases Nat.lt_or_ge p j with i|i
  ·have w:¬l[p]<t:=fun q=>by have:=(g p (by omega)).1 q;omega
   have v:=List.pairwise_iff_getElem.1 u p j (by omega) d i;exfalso;omega
  ·have:p=j:=by omega
   subst this;rw[List.getElem?_eq_getElem d,e]
theorem NI (l:List Int) (t:Int) (o:cL) (nl:Bool) (p:Nat) (O:p≤l.length) (hl:l.length≤1000000) (h:∀j (h:j<l.length),l[j]<t↔j<p) (σ:AS):
 aa Tryz.prog 252 [.an 3 (l.map aV) o nl,.sc (.int .i64 t)] σ (ao (.bQ [.sc (.int .i64 p),.sc (.bool (decide (l[p]? =some t)))]) σ) No:=by
 have F:=fun x σ=>Mc x t σ;have I:=h;obtain⟨n,w⟩:∃n,l.length=n:=⟨_,rfl⟩;rw[w]at O hl;refine aa.ob Tryz.func252 ?_;refine gO gf @w tI ?_;refine ae.bp (α:=(Nat)×(Nat)) ((0,n)) (fun⟨i,j⟩=>j-i) (fun⟨i,j⟩=>i≤p∧p≤j∧j≤n) [(0,?_),(1,?_),(4,?_),(5,?_),(6,?_)] (fun⟨i,j⟩=> [(7,.sc (.int .i64 i)),(8,.sc (.int .i64 j))]) (fun⟨i,j⟩=>σ) ?_ ?_ ?_ ?_;rotate_left 5
 ·exact gF tI
 ·exact gT
 ·(try dsimp only)<;>first|exact trivial|exact⟨by omega,rfl⟩|omega|(simp;done)|exact⟨by omega,by simp⟩|exact⟨by omega,by simp,rfl⟩
 intro L A;obtain⟨i,j⟩:=L;try dsimp only at A⊢
 obtain⟨h1,S,Q⟩:=A;simp only[gj];by_cases g:i<j
 ·have w1:IntKind.i64.wrap ((i:Int)+j)=(i:Int)+j:=ay (by omega) (by omega);have K:IntKind.u64.wrap ((i:Int)+j)=(i:Int)+j:=nw (by omega) (by omega);obtain⟨m,hm⟩:∃m:Nat,m=(i+j)/2:=⟨_,rfl⟩;have J:IntKind.i64.wrap (((i:Int)+j)/2)=(m:Int):=by rw[ay (by omega) (by omega)];omega
  have E:m<n:=by omega
  have D:m<l.length:=by omega
  have v:=I m D;obtain⟨x,H,_⟩:=iF l D;obtain⟨_,d⟩:=List.getElem?_eq_some_iff.1 H;rw[d]at v;have u:IntKind.i64.wrap ((m:Int)+1)=((m+1:Nat):Int):=cv (by omega);by_cases G:x<t
  ·refine gO gf (j2 (j7 g @w1 @K @J @E @d @G) (j4 @aG @aI @w @u)) @F ?_;refine aP.mk ((m+1,j)) (by(try dsimp only);omega) (gF tI) gT ?_;try dsimp only
   exact⟨by have:=v.1 G;omega,S,Q⟩
  ·refine gO gf (j2 (j7 g @w1 @K @J @E @d @G) (j4 @aG @aI @w @u)) @F ?_;refine aP.mk ((i,m)) (by(try dsimp only);omega) (gF tI) gT ?_;try dsimp only
   exact⟨h1,by rcases Nat.lt_or_ge m p with q|q;exact absurd (v.2 q) G;exact q,by omega⟩
 ·obtain rfl:i=j:=by omega
  obtain rfl:i=p:=by omega
  by_cases y:i<n
  ·obtain⟨x,H,_⟩:=iF l (i:=i) (by omega);obtain⟨M,d⟩:=List.getElem?_eq_some_iff.1 H;by_cases he:x=t
   ·exact gE gf (j7 g @y @d @he @aG @aI @w) @EN
   ·exact gE gf (j7 g @y @d @he @aG @aI @w) @EN
  ·have P:l[i]? =none:=List.getElem?_eq_none (by omega);exact gE gf (j4 g @y @aI @w) tI
theorem tq (v n:Int) (h:n=2∨n=4∨n=8) (h0:0≤v) (g:v<256^n.toNat) (σ:AS):aa Tryz.prog 272 [.sc (.int .u64 v),.sc (.int .i64 n)] σ (ao (.sc (.int .i64 (zE n.toNat v))) σ) No:=by
 have d:IntKind.i64.wrap 48=48:=by decide
 rcases h with rfl|rfl|rfl;all_goals
  refine aa.ob Tryz.func272 ?_;refine gO gf (j3 @d @Tryz.underlying2 @Tryz.underlying137) tI ?_;refine Qu ?_;simp only[Int.reduceToNat,BD,Gx,DA]at g;simp only[zE,BD,Gx,DA,HZ,HX];split<;>omega
end Cd
namespace Im
open Go Go.AW
abbrev iu:b7:=(.step 0 (.step 2 (.step 3 (.step 6 (.step 7 (.read 4 (.pure 5 (.read 8 (.pure 9 (.read 1 (.step 10 (.alt 11 .done .none))))))))))))
abbrev ir:b7:=(.step 0 (.step 1 (.step 4 (.step 7 (.step 8 (.step 11 (.read 2 (.pure 3 (.read 9 (.pure 10 (.read 5 (.step 6 (.read 12 (.step 13 (.step 14 (.alt 15 (.step 16 (.alt 17 .done .none)) .none))))))))))))))))
theorem sZ (S:List Nat):aH Tryz.prog [] S:=mixed
theorem zm (S:List Nat):aH Tryz.prog [(3,iu),(4,ir)] S:=mixed
open Rg (Cl ic aW)
open Bd (R6 dz s8 cH cE)
def ey (P:List Int) (c:Cl):R6:=
 ⟨c.k,P.getD c.tf.toNat 0,P.getD c.tt.toNat 0-P.getD c.tf.toNat 0,P.getD c.hf.toNat 0,P.getD c.ht.toNat 0-P.getD c.hf.toNat 0,if c.k=2 then P.getD c.fl.toNat 0 else 0⟩
theorem ak.no:ak Bd.Ua:=Bd.ak.no
theorem Hr (P:List Int) (o:cL) (nl:Bool) (x:Int) (h0:0≤x) (h1:x<P.length) (hl:P.length≤1000000) (σ:AS):
 aa Tryz.prog 241 [.an 3 (P.map aV) o nl,.sc (.int .i64 x)] σ (ao (.sc (.int .i64 (P.getD x.toNat 0))) σ) No:=by
 obtain⟨n,rfl⟩:∃n:Nat,x=n:=⟨x.toNat,by omega⟩;have h:n<P.length:=by omega
 have i:P[n]? =some (P.getD n 0):=by rw[List.getD_eq_getElem?_getD,List.getElem?_eq_getElem h];rfl
 simp only[Int.toNat_natCast];generalize P.getD n 0=v at i⊢;obtain⟨_,g⟩:=List.getElem?_eq_some_iff.1 i;have d:=fun σ=>cH 12 σ;have j:((n:Int)<P.length)=True:=eq_true (by omega);refine aa.ob Tryz.func241 ?_;exact gE sZ (j4 @j @h @g @aG) @d
theorem zd (x:Int) (σ:AS):aa Tryz.prog 240 [.sc (.int .i64 x)] σ (ao (.sc (.bool (decide (1≤x∧x≤4)))) σ) No:=by
 refine aa.ob Tryz.func240 ?_;by_cases h1:1≤x
 ·by_cases d:x≤4
  ·exact gE sZ (j2 @h1 @d) tI;all_goals (repeat' (with_reducible apply j2))
   all_goals exact gL (j2 @h1 @d)
  ·exact gE sZ (j2 @h1 @d) tI;all_goals (repeat' (with_reducible apply j2))
   all_goals exact gL (j2 @h1 @d)
 ·exact gE sZ @h1 tI;all_goals (repeat' (with_reducible apply j2))
  all_goals exact gL @h1
theorem yB (i h:Nat) (σ:AS) (K:AS→Prop) (g:K σ):bS Tryz.prog 238 [.ptr i 0,.ptr h 0] σ none K:=by
 refine bS.of Tryz.func238 rfl rfl (by simp[Tryz.ntmps238]) (by simp[Tryz.ntmps238]) ?_;refine br.sp rfl (il.mS (by simp[Tryz.ntmps238]) Tryz.underlying316 trivial (by kernel_rfl) rfl ?_);refine br.rest ?_;have d:aw Tryz.prog 316= .sc (.int .i64 0):=by kernel_rfl
 simp-implicitDefEqProofs [d,Tryz.ntmps238];refine gO sZ tI tI ?_;exact g
structure Nc (P:List Int) (c:Cl):Prop where
 k:1≤c.k∧c.k≤4
 tf:0≤c.tf∧c.tf<P.length
 tt:0≤c.tt∧c.tt<P.length
 hf:0≤c.hf∧c.hf<P.length
 ht:0≤c.ht∧c.ht<P.length
 fl:c.k=2→0≤c.fl∧c.fl+1<P.length
 tl:0<P.getD c.tt.toNat 0-P.getD c.tf.toNat 0
 hl:0<P.getD c.ht.toNat 0-P.getD c.hf.toNat 0
 bd:∀i,0≤P.getD i 0∧P.getD i 0≤65535
theorem MK (P:List Int) (o:cL) (nl:Bool) (c:Cl) (h:Nc P c) (hl:P.length≤1000000) (σ:AS):
 aa Tryz.prog 188 [.an 3 (P.map aV) o nl,ic c] σ (ao (.bQ [dz (ey P c),.sc (.int .i64 0)]) σ) No:=by
 have U:=fun x h0 h1 σ=>Hr P o nl x h0 h1 hl σ;have I:∀σ,aa Tryz.prog 240 [.sc (.int .i64 c.k)] σ (ao (.sc (.bool true)) σ) No:=fun σ=>by have:=zd c.k σ;rwa [show decide (1≤c.k∧c.k≤4)=true by simp;exact h.k]at this
 have l:=fun σ=>cH 12 σ;refine aa.jj Tryz.func188 rfl rfl (by simp[Tryz.ntmps188]) (fun G1=> ?_);simp only[aW];apply lg.seq;have V:Tryz.f188.ntmps=63:=rfl;simp-implicitDefEqProofs only[V];refine gO zm tI tI ?_;intro id3 L;intro a3;intro q K;have d:=aA q;intro id5;intro g n J;have i:=aA g;have u:=aA n;obtain⟨A,Y,v,X,M,ar,H⟩:=Nt σ (.cells 158 [.sc (.int .i64 c.k),.sc (.int .i64 c.tf),.sc (.int .i64 c.tt),.sc (.int .i64 c.hf),.sc (.int .i64 c.ht),.sc (.int .i64 c.fl),.sc (.int .i64 c.a),.sc (.int .i64 c.b),.sc (.int .i64 c.c),.sc (.bool c.r)]) (.cells 221 [.sc (.int .i64 0),.sc (.int .i64 0),.sc (.int .i64 0),.sc (.int .i64 0),.sc (.int .i64 0),.sc (.int .i64 0)]) (.cells 31 [.sc (.int .i64 0)]) L K J d u i;simp only[Y];clear Y;apply lg.defer (by simp) (by decide+kernel);intro D;simp-implicitDefEqProofs only[V];have b1:=h.bd c.tf.toNat;have b2:=h.bd c.tt.toNat;have b3:=h.bd c.hf.toNat;have b4:=h.bd c.ht.toNat;have G:=U c.tf h.tf.1 h.tf.2;have F:=U c.tt h.tt.1 h.tt.2;have E:=U c.hf h.hf.1 h.hf.2;have w:=U c.ht h.ht.1 h.ht.2;have t1:=h.tl;have t2:=h.hl;have w1:IntKind.i64.wrap (P.getD c.tt.toNat 0-P.getD c.tf.toNat 0)=P.getD c.tt.toNat 0-P.getD c.tf.toNat 0:=ay (by omega) (by omega);have w2:IntKind.i64.wrap (P.getD c.ht.toNat 0-P.getD c.hf.toNat 0)=P.getD c.ht.toNat 0-P.getD c.hf.toNat 0:=ay (by omega) (by omega);have Z:ey P c=⟨c.k,P.getD c.tf.toNat 0,P.getD c.tt.toNat 0-P.getD c.tf.toNat 0,P.getD c.hf.toNat 0,P.getD c.ht.toNat 0-P.getD c.hf.toNat 0,if c.k=2 then P.getD c.fl.toNat 0 else 0⟩:=rfl;generalize P.getD c.tf.toNat 0=p1 at*;generalize P.getD c.tt.toNat 0=p2 at*;generalize P.getD c.hf.toNat 0=p3 at*;generalize P.getD c.ht.toNat 0=p4 at*;refine gO zm @v (j2 @I @l) ?_;have S:p1<p2:=by omega
 have Q:p3<p4:=by omega
 apply Bd.ae.sure
 (((with_reducible apply ae.aR (id:=3) (t:=iu));(exact mixed);kernel_rfl;kernel_rfl;(repeat (with_reducible first|apply ak.then|apply ak.block|apply ak.body|apply ak.no)));simp-implicitDefEqProofs [v])
 repeat' (first
  |(with_reducible first|apply ae.seq|apply ae.block|refine j2 (by first|omega|assumption|decide) ?_)
  |((first|(with_reducible first|apply ae.fork|apply ae.region|show aN _ _ _ |show aB _ _ _ _ _ _ _ _ _)|((with_reducible apply ae.aR (id:=3) (t:=iu));(exact mixed);kernel_rfl;kernel_rfl;(repeat (with_reducible first|apply ak.then|apply ak.block|apply ak.body|apply ak.no)))|((with_reducible apply ae.aR (id:=4) (t:=ir));(exact mixed);kernel_rfl;kernel_rfl;(repeat (with_reducible first|apply ak.then|apply ak.block|apply ak.body|apply ak.no)))|((with_reducible apply ag.id);first|apply ag.aC (I _)|apply ag.aC (l _)|apply ag.aC (G _)|apply ag.aC (F _)|apply ag.aC (E _)|apply ag.aC (w _))|((with_reducible apply aF.id);first|apply aF.aC (fun _ =>I _)|apply aF.aC (fun _ =>l _)|apply aF.aC (fun _ =>G _)|apply aF.aC (fun _ =>F _)|apply aF.aC (fun _ =>E _)|apply aF.aC (fun _ =>w _)));simp-implicitDefEqProofs [v,X])
  |trivial
  |(with_reducible apply j2)
  |((with_reducible first|apply ae.ret|apply ae.skip|apply ae.exit);try simp-implicitDefEqProofs [w1,w2,t1,t2,d,q,g,i,n,u,v,X,M]))
 apply Bd.ae.sure
 (((with_reducible apply ae.aR (id:=4) (t:=ir));(exact mixed);kernel_rfl;kernel_rfl;(repeat (with_reducible first|apply ak.then|apply ak.block|apply ak.body|apply ak.no)));simp-implicitDefEqProofs [d,v])
 by_cases O:c.k=2
 ·have hf:=h.fl O;have T:=U c.fl hf.1 (by omega);have af:((c.fl:Int)<(P.length:Int)-1)=True:=eq_true (by omega);have ac:IntKind.i64.wrap ((P.length:Int)-1)=(P.length:Int)-1:=ay (by omega) (by omega);rw[if_pos O]at Z;generalize P.getD c.fl.toNat 0=p5 at*
  repeat' (first
   |(with_reducible first|apply ae.seq|apply ae.block|refine j2 (by first|omega|assumption|decide) ?_)
   |((first|(with_reducible first|apply ae.fork|apply ae.region|show aN _ _ _ |show aB _ _ _ _ _ _ _ _ _)|((with_reducible apply ae.aR (id:=3) (t:=iu));(exact mixed);kernel_rfl;kernel_rfl;(repeat (with_reducible first|apply ak.then|apply ak.block|apply ak.body|apply ak.no)))|((with_reducible apply ae.aR (id:=4) (t:=ir));(exact mixed);kernel_rfl;kernel_rfl;(repeat (with_reducible first|apply ak.then|apply ak.block|apply ak.body|apply ak.no)))|((with_reducible apply ag.id);first|apply ag.aC (I _)|apply ag.aC (l _)|apply ag.aC (G _)|apply ag.aC (F _)|apply ag.aC (E _)|apply ag.aC (w _)|apply ag.aC (T _))|((with_reducible apply aF.id);first|apply aF.aC (fun _ =>I _)|apply aF.aC (fun _ =>l _)|apply aF.aC (fun _ =>G _)|apply aF.aC (fun _ =>F _)|apply aF.aC (fun _ =>E _)|apply aF.aC (fun _ =>w _)|apply aF.aC (fun _ =>T _)));simp-implicitDefEqProofs [w1,w2,S,Q,O,af,ac,d,g,v,M])
   |trivial
   |(with_reducible apply j2)
   |((with_reducible first|apply ae.ret|apply ae.skip|apply ae.exit);try simp-implicitDefEqProofs))
  refine yB _ _ _ _ ?_;simp-implicitDefEqProofs [i,Z,dz,O];exact H _ fun j e3 e4 e5 y hj=>by simp[AS.set,e4,e5,hj]
 ·rw[if_neg O]at Z
  repeat' (first
   |(with_reducible first|apply ae.seq|apply ae.block|refine j2 (by first|omega|assumption|decide) ?_)
   |((first|(with_reducible first|apply ae.fork|apply ae.region|show aN _ _ _ |show aB _ _ _ _ _ _ _ _ _)|((with_reducible apply ae.aR (id:=3) (t:=iu));(exact mixed);kernel_rfl;kernel_rfl;(repeat (with_reducible first|apply ak.then|apply ak.block|apply ak.body|apply ak.no)))|((with_reducible apply ae.aR (id:=4) (t:=ir));(exact mixed);kernel_rfl;kernel_rfl;(repeat (with_reducible first|apply ak.then|apply ak.block|apply ak.body|apply ak.no)))|((with_reducible apply ag.id);first|apply ag.aC (I _)|apply ag.aC (l _)|apply ag.aC (G _)|apply ag.aC (F _)|apply ag.aC (E _)|apply ag.aC (w _))|((with_reducible apply aF.id);first|apply aF.aC (fun _ =>I _)|apply aF.aC (fun _ =>l _)|apply aF.aC (fun _ =>G _)|apply aF.aC (fun _ =>F _)|apply aF.aC (fun _ =>E _)|apply aF.aC (fun _ =>w _)));simp-implicitDefEqProofs [w1,w2,S,Q,O,d,g,v,M])
   |trivial
   |(with_reducible apply j2)
   |((with_reducible first|apply ae.ret|apply ae.skip|apply ae.exit);try simp-implicitDefEqProofs))
  refine yB _ _ _ _ ?_;simp-implicitDefEqProofs [i,Z,dz];exact H _ fun j e3 e4 e5 y hj=>by simp[AS.set,e4,e5,hj]
end Im
namespace Sg
open Go Go.AW
theorem nU (S:List Nat):aH Tryz.prog [] S:=mixed
def del (τ:AS) (i:Nat):AS:=fun j=>if j=i then none else τ j
theorem ME {τ:AS}{i:Nat}{x:bN}(h:τ i=some x):(del τ i).set i x=τ:=by
 funext j;by_cases e:j=i
 ·subst e;simp[AS.set,h]
 ·simp[AS.set,del,e]
theorem wT {σ τ:AS}{i:Nat}(h:AS.le σ τ) (h0:σ i=none):AS.le σ (del τ i):=by
 intro j y d;by_cases e:j=i
 ·subst e;rw[h0]at d;cases d
 ·simp[del,e];exact h _ _ d
theorem Q8 {l:List UInt8}{g:Nat}{nl:Bool}{t:Ty}{τ:AS}{K u:AV→AS→Prop}(i:nl=true→l= []) (hl:l.length≤1000) (ht:bo t=true) (h:τ g=some (.tok l.length))
 (n:∀d,(del τ g) d=none→K (.an 5 ((l++eN t).map u8) (.tok d) false) ((del τ g).set d (.tok (l++eN t).length))):
 ag Tryz.prog (.sc (.func (.func 135) #[] #[])) [.an 5 (l.map u8) (.tok g) nl,.agg [.sc (.int .i64 t.kind),.sc (.int .i64 t.index),.sc (.int .i64 t.bt),.sc (.bool t.ref)]] τ K u:=by
 have j:=E0 l g nl i hl t ht (del τ g) (by simp[del]);rw[ME h]at j;exact .of j (fun r σ' ⟨d,h1,q,o⟩=>by subst q;subst o;exact n d h1) (fun _ _ h=>h.elim)
def preB (c:UInt8) (l:List Ty) (i:Nat):List UInt8:=c::(aY l.length++(l.take i).flatMap eN)
theorem yF (c:UInt8) (l:List Ty) {i:Nat}(h:i<l.length):preB c l (i+1)=preB c l i++eN l[i]:=by unfold preB;rw[List.take_succ_eq_append_getElem h,List.flatMap_append];simp only[List.flatMap_cons,List.flatMap_nil,List.append_nil,List.cons_append,List.append_assoc]
theorem gH (n:Nat) (h:n≤12):aY n= [UInt8.ofNat n]:=by
 have:∀k:Fin 13,aY ((k:Nat):Int)= [UInt8.ofNat k]:=by decide
 exact this ⟨n,by omega⟩
theorem zs {t:Ty}(h:bo t=true):(eN t).length≤10:=by
 obtain⟨d0,d3,i,j⟩:=kL h;have d:∀x,(aY x).length≤4:=by intro x;simp only[aY,kj,ez];split<;>(try split)<;>(try split)<;>simp
 have h1:=d (4*(t.index+1));have n:=d t.index;have l:t.bt.toNat≤3:=by omega
 have g:(lL t).length≤5:=by
  unfold lL
  repeat' split
  all_goals simp<;>omega
 unfold eN;split<;>simp<;>omega
theorem IX (c:UInt8) (l:List Ty) (h:l.length≤12) (g:∀t∈l,bo t=true) (i:Nat) (j:i≤l.length):(preB c l i).length≤5+10*i:=by
 induction i with
 |zero=>unfold preB;rw[gH _ h];simp
 |succ i d=>rw[yF c l (by omega),List.length_append];have:=d (by omega);have:=zs (g l[i] (List.getElem_mem (by omega)));omega
theorem LO (l:List Ty) (h:l.length≤12):preB 7 l l.length=HO l:=by unfold preB HO xL;rw[gH _ h,List.take_length];rfl
theorem AN (l:List Ty) (o:cL) (nl:Bool) (hl:l.length≤12) (O:l.all bE=true) (σ:AS):aa Tryz.prog 65 [.an 49 (l.map cr) o nl] σ
 (la (fun n=> .bQ [.an 5 ((HO l).map u8) (.tok n) false,.sc (.int .i64 0)]) (HO l).length σ) No:=by
 have ha:=fun σ=>AA l o nl (by omega) σ;rw[O]at ha;have F:∀t∈l,bo t=true:=by intro t h;have:=List.all_eq_true.1 O t h;unfold bE at this;simp at this;exact this.1
 have J:=fun σ=>kB [7] .full false (by simp) (by simp) (l.length:Int) (by omega) (by omega) σ;have U: [7]++aY l.length=preB 7 l 0:=by simp[preB]
 rw[U]at J;simp at J;have M:((12:Int)<l.length)=False:=by simp;omega
 have Y:=IX 7 l hl F;rw[←LO l hl];refine aa.ob Tryz.func65 ?_;refine gO nU @M (j2 @ha @J) ?_;intro H A;refine gO nU tI tI ?_;refine ae.bp (α:=(Nat)×(Nat)) ((0,H)) (fun⟨i,n⟩=>l.length-i) (fun⟨i,n⟩=>i≤l.length∧σ n=none) [(2,?_),(3,?_),(23,?_),(24,?_)] (fun⟨i,n⟩=> [(25,.sc (.int .i64 i)),(4,.an 5 ((preB 7 l i).map u8) (.tok n) false)]) (fun⟨i,n⟩=>σ.set n (.tok (preB 7 l i).length)) ?_ ?_ ?_ ?_;rotate_left 4
 ·exact gF tI
 ·(try dsimp only);(simp;done)
 ·exact⟨by omega,A⟩
 intro T E;obtain⟨i,n⟩:=T;try dsimp only at E⊢
 obtain⟨V,j⟩:=E;simp only[gj];by_cases q:i<l.length
 ·have v:IntKind.i64.wrap ((i:Int)+1)=((i+1:Nat):Int):=cv (by omega);have X:=Y i V;have I:=F l[i] (List.getElem_mem q);repeat (first
   |(with_reducible first|apply ae.seq|apply ae.block|refine j2 (by first|omega|assumption|decide) ?_)
   |((first|(with_reducible first|apply ae.fork|apply ae.region|show aN _ _ _ |show aB _ _ _ _ _ _ _ _ _));simp-implicitDefEqProofs [q,aD])
   |((with_reducible first|apply ae.ret|apply ae.skip|apply ae.exit);try simp-implicitDefEqProofs))
  intro id g w;have d:=aA g;repeat (first
   |(with_reducible first|apply ae.seq|apply ae.block|refine j2 (by first|omega|assumption|decide) ?_)
   |((first|(with_reducible first|apply ae.fork|apply ae.region|show aN _ _ _ |show aB _ _ _ _ _ _ _ _ _)|((with_reducible apply ag.id);first|apply (Q8 (l:=preB 7 l i) (t:=l[i]) (by simp) (by omega) I (by simp[d]))));simp-implicitDefEqProofs)
   |((with_reducible first|apply ae.ret|apply ae.skip|apply ae.exit);try simp-implicitDefEqProofs [q,aD,aI,mj,v,g,d]))
  intro u D;have hf:σ u=none:=by
   by_cases S:u=n
   ·rw[S];exact j
   ·by_cases Q:u=id
    ·rw[Q];exact w
    ·simpa[del,AS.set,S,Q]using D
  have hle:∀x y,AS.le σ (del ((σ.set n x).set id y) n):=fun x y=>wT (AS.ah (AS.ah (lR _) j) (by simp[w])) j;have P:=yF 7 l q;have L:(preB 7 l (i+1)).map u8=(preB 7 l i).map u8++(eN l[i]).map u8:=by rw[P,List.map_append]
  have G:(preB 7 l (i+1)).length=(preB 7 l i).length+(eN l[i]).length:=by rw[P,List.length_append]
  refine gO nU @v tI ?_;refine aP.mk ((i+1,u)) (by(try dsimp only);omega) (gF @L) (by(try dsimp only);(first|(simp[G];done)|(simp[G];exact ah (hle _ _)))) ?_;try dsimp only
  exact⟨q,hf⟩
 ·have K:i=l.length:=by omega
  subst K;refine gO nU (j2 q @aI) tI ?_;exact bJ n j (by simp) (lR _)
theorem xF (l:List Ty) (o:cL) (nl:Bool) (hl:12<l.length) (g:l.length≤140737488355328) (σ:AS):aa Tryz.prog 65 [.an 49 (l.map cr) o nl] σ
 (ao (.bQ [.ai,.sc (.int .i64 4)]) σ) No:=by
 have d:((12:Int)<l.length)=True:=by simp;omega
 refine aa.ob Tryz.func65 ?_;exact gE nU @d tI
theorem ym (l:List Ty) (o:cL) (nl:Bool) (hl:l.length≤12) (g:l.all bE=false) (σ:AS):aa Tryz.prog 65 [.an 49 (l.map cr) o nl] σ
 (ao (.bQ [.ai,.sc (.int .i64 17)]) σ) No:=by
 have ha:=fun σ=>AA l o nl (by omega) σ;rw[g]at ha;have d:((12:Int)<l.length)=False:=by simp;omega
 refine aa.ob Tryz.func65 ?_;exact gE nU @d @ha
theorem cU (S:List Nat):aH Tryz.prog [] S:=mixed
theorem Ka (τ:AS) (i j:Nat):del τ i j=if j=i then none else τ j:=rfl
def JN (c:UInt8) (l:List Ty):List UInt8:=c::aY l.length
def mD (c:UInt8) (l:List Ty) (r:Ty) (i:Nat):List UInt8:=JN c l++(eN r++(l.take i).flatMap eN)
theorem tE (c:UInt8) (l:List Ty) (r:Ty):mD c l r 0=JN c l++eN r:=by simp[mD]
theorem tG (c:UInt8) (l:List Ty) (r:Ty) {i:Nat}(h:i<l.length):mD c l r (i+1)=mD c l r i++eN l[i]:=by unfold mD;rw[List.take_succ_eq_append_getElem h,List.flatMap_append];simp only[List.flatMap_cons,List.flatMap_nil,List.append_nil,List.append_assoc]
theorem Af (c:UInt8) (l:List Ty) (h:l.length≤12):(JN c l).length=2:=by unfold JN;rw[gH _ h];rfl
theorem BC (c:UInt8) (l:List Ty) (r:Ty) (h:l.length≤12) (g:bo r=true) (j:∀t∈l,bo t=true) (i:Nat) (n:i≤l.length):(mD c l r i).length≤12+10*i:=by
 induction i with
 |zero=>have:=zs g;rw[tE,List.length_append,Af c l h];omega
 |succ i d=>rw[tG c l r (by omega),List.length_append];have:=d (by omega);have:=zs (j l[i] (List.getElem_mem (by omega)));omega
theorem E5 (d:Bool) (l:List Ty) (r:Ty) (h:l.length≤12):mD (if d=true then 32 else 0) l r l.length=ER ⟨d,l,r⟩:=by unfold mD JN ER xL;rw[gH _ h,List.take_length];rfl
theorem CQ (g:Bool) (l:List Ty) (r:Ty) (o:cL) (nl:Bool) (hl:6<l.length) (h:l.length≤140737488355328) (σ:AS):
 aa Tryz.prog 137 [.agg [.sc (.bool g),.an 49 (l.map cr) o nl,.sc (.int .i64 r.kind),.sc (.int .i64 r.index),.sc (.int .i64 r.bt),.sc (.bool r.ref)]] σ
 (ao (.bQ [.ai,.sc (.int .i64 4)]) σ) No:=by
 have i:((6:Int)<l.length)=True:=by simp;omega
 refine aa.ob Tryz.func137 ?_;refine gO cU tI tI ?_;intro id d;refine gO cU @i tI ?_;exact AS.ah (lR _) d
theorem Ey (q:Bool) (l:List Ty) (r:Ty) (o:cL) (nl:Bool) (hl:l.length≤6) (i:(l.all bE&&dB r)=false) (σ:AS):
 aa Tryz.prog 137 [.agg [.sc (.bool q),.an 49 (l.map cr) o nl,.sc (.int .i64 r.kind),.sc (.int .i64 r.index),.sc (.int .i64 r.bt),.sc (.bool r.ref)]] σ
 (ao (.bQ [.ai,.sc (.int .i64 17)]) σ) No:=by
 have n:((6:Int)<l.length)=False:=by simp;omega
 have ha:=fun σ=>AA l o nl (by omega) σ;have g:=fun σ=>oL r σ;simp only[aD]at g;cases j:l.all bE with
 |false=>rw[j]at ha;refine aa.ob Tryz.func137 ?_;refine gO cU tI tI ?_;intro id d;refine gO cU @n @ha ?_;exact AS.ah (lR _) d
 |true=>
  rw[j]at ha i;have h:dB r=false:=by simpa using i
  rw[h]at g;refine aa.ob Tryz.func137 ?_;refine gO cU tI tI ?_;intro id d;refine gO cU @n (j2 @ha @g) ?_;exact AS.ah (lR _) d
theorem HH (th:Bool) (l:List Ty) (r:Ty) (o:cL) (nl:Bool) (hl:l.length≤6) (hp:(l.all bE&&dB r)=true) (σ:AS):
 aa Tryz.prog 137 [.agg [.sc (.bool th),.an 49 (l.map cr) o nl,.sc (.int .i64 r.kind),.sc (.int .i64 r.index),.sc (.int .i64 r.bt),.sc (.bool r.ref)]] σ
 (la (fun F=> .bQ [.an 5 ((ER ⟨th,l,r⟩).map u8) (.tok F) false,.sc (.int .i64 0)]) (ER ⟨th,l,r⟩).length σ) No:=by
 have h6:((6:Int)<l.length)=False:=by simp;omega
 have ha:=fun σ=>AA l o nl (by omega) σ;have hr:=fun σ=>oL r σ;simp only[aD]at hr;obtain⟨hA,hR⟩:l.all bE=true∧dB r=true:=by simpa using hp
 rw[hA]at ha;rw[hR]at hr;have U:bo r=true:=by unfold dB at hR;simp at hR;exact hR.1
 have V:∀t∈l,bo t=true:=by intro t h;have:=List.all_eq_true.1 hA t h;unfold bE at this;simp at this;exact this.1
 cases th with
 |false=>
  refine aa.ob Tryz.func137 ?_;refine gO cU tI tI ?_;intro id K;refine gO (S:= [5]) cU @h6 (j2 @ha @hr) ?_
  with_reducible apply ae.eX
  refine br.sp rfl (il.ml (by decide) ?_);simp-implicitDefEqProofs [bH];intro Y n af;have j:=aA n;refine br.rest ?_;simp-implicitDefEqProofs;refine gO (S:= [8]) cU j tI ?_;refine ae.freeze 4 Y (([0]:List UInt8).map u8) (m:=1) (by simp) (by simp[*]) (by simp) (by simp) (by simp) ?_;simp-implicitDefEqProofs;have hk:=fun σ=>kB [0] .full false (by simp) (by simp) (l.length:Int) (by omega) (by omega) σ;have hz: [0]++aY l.length=JN 0 l:=by simp[JN]
  rw[hz]at hk;simp at hk;have hS:=E5 false l r (by omega);simp at hS;rw[←hS];have hL:=BC 0 l r (by omega) U V;have hd:=Af 0 l (by omega);refine gO cU tI @hk ?_;intro X g w;have d:=aA g;repeat (first
   |(with_reducible first|apply ae.seq|apply ae.block|refine j2 (by first|omega|assumption|decide) ?_)
   |((first|(with_reducible first|apply ae.fork|apply ae.region|show aN _ _ _ |show aB _ _ _ _ _ _ _ _ _)|((with_reducible apply ag.id);first|apply (Q8 (l:=JN 0 l) (t:=r) (by simp) (by omega) U (by simp))));simp-implicitDefEqProofs [d])
   |((with_reducible first|apply ae.ret|apply ae.skip|apply ae.exit);try simp-implicitDefEqProofs [n,j,aI,mj,g,d]))
  intro G v;have L:σ G=none:=by
   by_cases T:G=X
   ·rw[T];exact w
   ·by_cases Q:G=id
    ·rw[Q];exact K
    ·simpa[del,AS.set,T,Q]using v
  have D:¬id=G:=by intro e;rw[←e]at v;simp[del,d]at v
  rw[←List.map_append,←List.length_append,←tE];refine gO cU (j3 @Ka d D) tI ?_;refine ae.bp (α:=(Nat)×(Nat)) ((0,G)) (fun⟨i,F⟩=>l.length-i) (fun⟨i,F⟩=>i≤l.length∧σ F=none) [(2,?_),(3,?_),(41,?_),(42,?_)] (fun⟨i,F⟩=> [(43,.sc (.int .i64 i)),(4,.an 5 ((mD 0 l r i).map u8) (.tok F) false)]) (fun⟨i,F⟩=>σ.set F (.tok (mD 0 l r i).length)) ?_ ?_ ?_ ?_;rotate_left 4
  ·exact gF tI
  ·(try dsimp only);(exact ah (wT (AS.ah (AS.ah (lR _) K) (by simp[w])) w))
  ·exact⟨by omega,L⟩
  intro x_ O;obtain⟨i,F⟩:=x_;try dsimp only at O⊢
  obtain⟨hi,A⟩:=O;simp only[gj];by_cases E:i<l.length
  ·have J:IntKind.i64.wrap ((i:Int)+1)=((i+1:Nat):Int):=cv (by omega);have a4:=hL i hi;have Z:=V l[i] (List.getElem_mem E);repeat (first
    |(with_reducible first|apply ae.seq|apply ae.block|refine j2 (by first|omega|assumption|decide) ?_)
    |((first|(with_reducible first|apply ae.fork|apply ae.region|show aN _ _ _ |show aB _ _ _ _ _ _ _ _ _));simp-implicitDefEqProofs [E,aD])
    |((with_reducible first|apply ae.ret|apply ae.skip|apply ae.exit);try simp-implicitDefEqProofs))
   intro id3 u H;have q:=aA u;repeat (first
    |(with_reducible first|apply ae.seq|apply ae.block|refine j2 (by first|omega|assumption|decide) ?_)
    |((first|(with_reducible first|apply ae.fork|apply ae.region|show aN _ _ _ |show aB _ _ _ _ _ _ _ _ _)|((with_reducible apply ag.id);first|apply (Q8 (l:=mD 0 l r i) (t:=l[i]) (by simp) (by omega) Z (by simp[q]))));simp-implicitDefEqProofs)
    |((with_reducible first|apply ae.ret|apply ae.skip|apply ae.exit);try simp-implicitDefEqProofs [E,aD,n,j,aI,mj,g,d,J,u,q]))
   intro I M;have hf:σ I=none:=by
    by_cases T:I=F
    ·rw[T];exact A
    ·by_cases Q:I=id3
     ·rw[Q];exact H
     ·simpa[del,AS.set,T,Q]using M
   have hle:∀x y,AS.le σ (del ((σ.set F x).set id3 y) F):=fun x y=>wT (AS.ah (AS.ah (lR _) A) (by simp[H])) A;have hE:=tG 0 l r E;have al:(mD 0 l r (i+1)).map u8=(mD 0 l r i).map u8++(eN l[i]).map u8:=by rw[hE,List.map_append]
   have P:(mD 0 l r (i+1)).length=(mD 0 l r i).length+(eN l[i]).length:=by rw[hE,List.length_append]
   refine gO cU @J tI ?_;refine aP.mk ((i+1,I)) (by(try dsimp only);omega) (gF @al) (by(try dsimp only);(first|(simp[P];done)|(simp[P];exact ah (hle _ _)))) ?_;try dsimp only
   exact⟨E,hf⟩
  ·have ac:i=l.length:=by omega
   subst ac;refine gO cU (j2 E @aI) tI ?_;exact bJ F A (by simp) (lR _)
 |true=>
  refine aa.ob Tryz.func137 ?_;refine gO cU tI tI ?_;intro id K;refine gO (S:= [5]) cU @h6 (j2 @ha @hr) ?_
  with_reducible apply ae.eX
  refine br.sp rfl (il.ml (by decide) ?_);simp-implicitDefEqProofs [bH];intro Y n af;have j:=aA n;refine br.rest ?_;simp-implicitDefEqProofs;refine gO (S:= [8]) cU j tI ?_;refine ae.freeze 4 Y (([32]:List UInt8).map u8) (m:=1) (by simp) (by simp[*]) (by simp) (by simp) (by simp) ?_;simp-implicitDefEqProofs;have hk:=fun σ=>kB [32] .full false (by simp) (by simp) (l.length:Int) (by omega) (by omega) σ;have hz: [32]++aY l.length=JN 32 l:=by simp[JN]
  rw[hz]at hk;simp at hk;have hS:=E5 true l r (by omega);simp at hS;rw[←hS];have hL:=BC 32 l r (by omega) U V;have hd:=Af 32 l (by omega);refine gO cU tI @hk ?_;intro X g w;have d:=aA g;repeat (first
   |(with_reducible first|apply ae.seq|apply ae.block|refine j2 (by first|omega|assumption|decide) ?_)
   |((first|(with_reducible first|apply ae.fork|apply ae.region|show aN _ _ _ |show aB _ _ _ _ _ _ _ _ _)|((with_reducible apply ag.id);first|apply (Q8 (l:=JN 32 l) (t:=r) (by simp) (by omega) U (by simp))));simp-implicitDefEqProofs [d])
   |((with_reducible first|apply ae.ret|apply ae.skip|apply ae.exit);try simp-implicitDefEqProofs [n,j,aI,mj,g,d]))
  intro G v;have L:σ G=none:=by
   by_cases T:G=X
   ·rw[T];exact w
   ·by_cases Q:G=id
    ·rw[Q];exact K
    ·simpa[del,AS.set,T,Q]using v
  have D:¬id=G:=by intro e;rw[←e]at v;simp[del,d]at v
  rw[←List.map_append,←List.length_append,←tE];refine gO cU (j3 @Ka d D) tI ?_;refine ae.bp (α:=(Nat)×(Nat)) ((0,G)) (fun⟨i,F⟩=>l.length-i) (fun⟨i,F⟩=>i≤l.length∧σ F=none) [(2,?_),(3,?_),(41,?_),(42,?_)] (fun⟨i,F⟩=> [(43,.sc (.int .i64 i)),(4,.an 5 ((mD 32 l r i).map u8) (.tok F) false)]) (fun⟨i,F⟩=>σ.set F (.tok (mD 32 l r i).length)) ?_ ?_ ?_ ?_;rotate_left 4
  ·exact gF tI
  ·(try dsimp only);(exact ah (wT (AS.ah (AS.ah (lR _) K) (by simp[w])) w))
  ·exact⟨by omega,L⟩
  intro x_ O;obtain⟨i,F⟩:=x_;try dsimp only at O⊢
  obtain⟨hi,A⟩:=O;simp only[gj];by_cases E:i<l.length
  ·have J:IntKind.i64.wrap ((i:Int)+1)=((i+1:Nat):Int):=cv (by omega);have a4:=hL i hi;have Z:=V l[i] (List.getElem_mem E);repeat (first
    |(with_reducible first|apply ae.seq|apply ae.block|refine j2 (by first|omega|assumption|decide) ?_)
    |((first|(with_reducible first|apply ae.fork|apply ae.region|show aN _ _ _ |show aB _ _ _ _ _ _ _ _ _));simp-implicitDefEqProofs [E,aD])
    |((with_reducible first|apply ae.ret|apply ae.skip|apply ae.exit);try simp-implicitDefEqProofs))
   intro id3 u H;have q:=aA u;repeat (first
    |(with_reducible first|apply ae.seq|apply ae.block|refine j2 (by first|omega|assumption|decide) ?_)
    |((first|(with_reducible first|apply ae.fork|apply ae.region|show aN _ _ _ |show aB _ _ _ _ _ _ _ _ _)|((with_reducible apply ag.id);first|apply (Q8 (l:=mD 32 l r i) (t:=l[i]) (by simp) (by omega) Z (by simp[q]))));simp-implicitDefEqProofs)
    |((with_reducible first|apply ae.ret|apply ae.skip|apply ae.exit);try simp-implicitDefEqProofs [E,aD,n,j,aI,mj,g,d,J,u,q]))
   intro I M;have hf:σ I=none:=by
    by_cases T:I=F
    ·rw[T];exact A
    ·by_cases Q:I=id3
     ·rw[Q];exact H
     ·simpa[del,AS.set,T,Q]using M
   have hle:∀x y,AS.le σ (del ((σ.set F x).set id3 y) F):=fun x y=>wT (AS.ah (AS.ah (lR _) A) (by simp[H])) A;have hE:=tG 32 l r E;have al:(mD 32 l r (i+1)).map u8=(mD 32 l r i).map u8++(eN l[i]).map u8:=by rw[hE,List.map_append]
   have P:(mD 32 l r (i+1)).length=(mD 32 l r i).length+(eN l[i]).length:=by rw[hE,List.length_append]
   refine gO cU @J tI ?_;refine aP.mk ((i+1,I)) (by(try dsimp only);omega) (gF @al) (by(try dsimp only);(first|(simp[P];done)|(simp[P];exact ah (hle _ _)))) ?_;try dsimp only
   exact⟨E,hf⟩
  ·have ac:i=l.length:=by omega
   subst ac;refine gO cU (j2 E @aI) tI ?_;exact bJ F A (by simp) (lR _)
abbrev rA:b7:=(.step 0 (.step 1 (.step 2 (.step 4 (.step 5 (.step 6 (.read 3 (.read 7 (.step 8 .done)))))))))
theorem qU (S:List Nat):aH Tryz.prog [(6,rA)] S:=mixed
theorem zr (t u:Ty):(decide (t.kind=u.kind)&&(decide (t.index=u.index)&&(decide (t.bt=u.bt)&&(t.ref==u.ref))))=decide (t=u):=by obtain⟨a,b,c,d⟩:=t;obtain⟨j,i,h,g⟩:=u;rw[Bool.eq_iff_iff];simp
theorem v9 (l m:List Ty) (w v:cL) (n1 n2:Bool) (hl:l.length≤1000000) (hm:m.length≤1000000) (σ:AS):
 aa Tryz.prog 95 [.an 49 (l.map cr) w n1,.an 49 (m.map cr) v n2] σ (ao (.sc (.bool (decide (l=m)))) σ) No:=by
 by_cases hlen:l.length=m.length
 ·have q:((l.length:Int)=m.length)=True:=by simp[hlen]
  refine aa.ob Tryz.func95 ?_;refine gO qU @q tI ?_;refine ae.bp (α:=(Nat)) (0) (fun i=>l.length-i) (fun i=>i≤l.length∧l.take i=m.take i) [(0,?_),(1,?_)] (fun i=> [(5,.sc (.int .i64 i))]) (fun i=>σ) ?_ ?_ ?_ ?_;rotate_left 2
  ·exact gF tI
  ·exact gT
  ·(try dsimp only)<;>first|exact trivial|exact⟨by omega,rfl⟩|omega|(simp;done)|exact⟨by omega,by simp⟩|exact⟨by omega,by simp,rfl⟩
  intro i n;try dsimp only at n⊢
  obtain⟨A,o⟩:=n;simp only[gj];by_cases d:i<l.length
  ·have j:IntKind.i64.wrap ((i:Int)+1)=((i+1:Nat):Int):=cv (by omega);have h:i<m.length:=by omega
   have u:=zr l[i] m[i];by_cases he:l[i]=m[i]
   ·repeat (first
     |(with_reducible first|apply ae.seq|apply ae.block|refine j2 (by first|omega|assumption|decide) ?_)
     |((first|(with_reducible first|apply ae.fork|apply ae.region|show aN _ _ _ |show aB _ _ _ _ _ _ _ _ _)|((with_reducible apply ae.aR (id:=6) (t:=rA));(exact mixed);kernel_rfl;kernel_rfl;(repeat (with_reducible first|apply ak.then|apply ak.block|apply ak.body|apply ak.no))));simp-implicitDefEqProofs [d,h,aD,he,j])
     |((with_reducible first|apply ae.ret|apply ae.skip|apply ae.exit);try simp-implicitDefEqProofs))
    refine aP.mk (i+1) (by(try dsimp only);omega) (gF tI) gT ?_;try dsimp only
    exact⟨d,by rw[List.take_succ_eq_append_getElem d,List.take_succ_eq_append_getElem h,o,he]⟩
   ·have g:¬l=m:=fun e=>he (by subst e;rfl);rw[show decide (l[i]=m[i])=false by simp[he]]at u;simp only[g,decide_false];exact xM (qU []) @u (j4 d @h @aD @aI) tI (k:=trivial)
  ·have y:l=m:=by rw[List.take_of_length_le (by omega),List.take_of_length_le (by omega)]at o;exact o
   rw[show decide (l=m)=true by simp[y]];exact gE qU (j2 d @aI) tI
 ·have q:((l.length:Int)=m.length)=False:=by simp;omega
  have g:¬l=m:=fun e=>hlen (by rw[e]);rw[show decide (l=m)=false by simp[g]];refine aa.ob Tryz.func95 ?_;exact gE qU @q tI
end Sg
end Go.Proofs.YtknalmoackcpbaaGreat
