/- Own work. -/
import Derived.Test.YtknalmoackcpbaaGreatStr2
set_option maxRecDepth 100000
set_option maxHeartbeats 3200000
set_option linter.all false
abbrev Go.By:=List UInt8
namespace Go.Proofs.YtknalmoackcpbaaGreat
namespace Pl
open Go Go.AW Tryz
theorem gU (S:List Nat):aH prog [] S:=mixed
def bV (x:By×Bool):AV:= .an 5 (x.1.map u8) .aE x.2
def lC (s:By):By:=aY s.length++s
theorem gH (n:Int) (h0:0≤n) (h1:n≤536870911):1≤(aY n).length∧(aY n).length≤4:=by unfold aY;rw[kj];rcases fC n h0 h1 with⟨_,h⟩|⟨_,_,h⟩|⟨_,_,h⟩<;>rw[h]<;>decide
theorem Hv (d:By) (x:By×Bool) (o:cL) (aT:Nat) (i σ:AS) (u:PS o d.length i σ) (j:i aT=some (.cells 30 [bV x])) (h1:d.length≤1000000) (D:x.1.length≤1000):
 aa prog 72 [.an 5 (d.map u8) o false,.ptr aT 0] σ (la (fun h=> .an 5 ((d++lC x.1).map u8) (.tok h) false) (d++lC x.1).length i) No:=by
 have n:=u.le aT _ j;have l:=fun σ=>kB d o false (by simp) h1 x.1.length (by omega) (by omega) σ;have q:=gH x.1.length (by omega) (by omega);generalize w:aY x.1.length=P at l q;have A:lC x.1=P++x.1:=by rw[lC,w]
 rw[A];refine aa.ob func72 ?_;refine gO gU (j2 @n @bV.eq_1) @l ?_;intro h g;have n1:¬aT=h:=nq n g;refine gO gU (j3 @n @bV.eq_1 @n1) tI ?_;have h0:i h=none:=by
  cases v:i h with
  |none=>rfl
  |some y=>rw[u.le _ _ v]at g;cases g
 refine bJ h h0 (iR (by first|rfl|simp)) ?_;exact jn u.le (by first|omega|(simp;omega))
def ur:List (By)→By→List (By×Nat)→By×List (By×Nat)
 |[],p,d=>(p,d)
 |s::r,p,d=>match gW s (([],0)::d)with
  |some a=>ur r p (d++ [(s,a)])
  |none=>ur r (p++lC s) (d++ [(s,p.length)])
theorem xw:∀(r:List (By)) (p:By) (d:List (By×Nat)),p.length≤(ur r p d).1.length
 |[],p,d=>Nat.le_refl _
 |s::r,p,d=>by
  simp only[ur];split
  ·exact xw r p _
  ·have:=xw r (p++lC s) (d++ [(s,p.length)]);rw[List.length_append]at this;omega
theorem Av:∀(l:List (By)) (p:By) (d:List (By×Nat)),(ur l p d).2.length=d.length+l.length
 |[],p,d=>rfl
 |s::r,p,d=>by
  simp only[ur];split
  ·rw[Av];simp;omega
  ·rw[Av];simp;omega
theorem zT:∀(l:List (By)) (p:By) (d:List (By×Nat)),(tK l p d).2.length=d.length+l.length
 |[],p,d=>rfl
 |s::r,p,d=>by
  simp only[tK];split
  ·rw[zT];simp;omega
  ·rw[zT];simp;omega
def cg (l:List (By)):By×List Int×Int:=
 if 65536<(ur l [0] []).1.length then([],[],4)else((ur l [0] []).1,(ur l [0] []).2.map (fun p=>(p.2:Int)),0)
def Pu (l:List (By)):AV:= .bQ [.an 5 ((cg l).1.map u8) .aE (decide (65536<(ur l [0] []).1.length)),.an 3 ((cg l).2.1.map aV) .aE (decide (65536<(ur l [0] []).1.length∨l= [])),.sc (.int .i64 (cg l).2.2)]
theorem CB {l:List (By)}(h:65536<(ur l [0] []).1.length):AV.Wk prog (.bQ [.ai,.ai,.sc (.int .i64 4)]) (Pu l):=by unfold Pu cg;rw[if_pos h];exact jB (by simp[h]) (by simp[h]) (by simp)
def U0 (l:List (By×Bool)) (nl:Bool) (q:cL) (B:AS) (g bh:Nat) (m:Nat) (fr:Fr) (σ':AS):Prop:=
 ∃(i:Nat) (p:By) (d:List (By×Nat)) (o:cL) (h:List (ByteArray×AV)) (n:AS) (pl:AV),m=l.length-i∧i≤l.length∧ur ((l.drop i).map (·.1)) p d=ur (l.map (·.1)) [0] []∧d.length=i∧p.length≤65536∧
  (∀s:By,iz ⟨s.toArray⟩ h=(gW s (([],0)::d)).map (fun a=> .sc (.int .i64 (a:Int))))∧
  ((i=0∧pl= .ai∧n=(B.set bh (.map (eO h))).set g (fW p o bh))∨(∃j,0<i∧B j=none∧j≠g∧j≠bh∧pl=u0 d (.tok j)∧n=((B.set bh (.map (eO h))).set g (fW p o bh)).set j (.tok i)))∧
  PS o p.length n σ'∧fr=jJ [(5,.ptr g 0),(6,pl),(14,.an 30 (l.map bV) q nl),(15,.sc (.int .i64 l.length)),(16,.sc (.int .i64 i))]
theorem Ht (l:List (By×Bool)) (nl:Bool) (o0:cL) (hl:l.length≤100000) (hs:∀s∈l,s.1.length≤300) (σ:AS):
 aa prog 30 [.an 30 (l.map bV) o0 nl] σ (ao (Pu (l.map (·.1))) σ) No:=by
 refine aa.ob func30 ?_;refine gO (S:= [2]) gU tI tI ?_;refine ag.of (Ca _) ?_ (fun _ _ h=>h.elim);rintro r σ1 ⟨g,bh,dn,ap,v,rfl,rfl⟩;simp-implicitDefEqProofs;have U:bh≠g:=fun e=>v e.symm;refine gO (S:= [2]) gU tI tI ?_
 with_reducible apply ae.eX
 refine br.first 4 ?_;simp-implicitDefEqProofs [fW,v,U];refine br.sp rfl (il.mapUpdate bh ⟨[].toArray⟩ [] underlying129 underlying9 (by simp) (by simp) (by simp[AS.set,v,U]) ?_);refine br.rest ?_;simp-implicitDefEqProofs;refine gO gU tI tI ?_;refine ae.dx (U0 l nl o0 σ g bh) (k0:=l.length) ⟨0,[0],[],.full,kV ⟨[].toArray⟩ (.sc (.int .i64 0)) [],_,_,by omega,by omega,rfl,rfl,by simp,?_,.inl ⟨rfl,rfl,rfl⟩,.inl ⟨rfl,rfl⟩,rfl⟩ (aS.mk (by simp)) ?_ ?_
 ·intro s;by_cases h:s= []<;>simp[kV,iz,gW,h];intro e;exact h (by simpa using (congrArg ByteArray.data e:s.toArray=#[]))
 ·intro j x hx;by_cases a1:j=bh
  ·subst a1;simp[AS.set,fW,U]at hx⊢;exact hx
  ·by_cases a2:j=g
   ·subst a2;simp[AS.set,fW,v]at hx⊢;exact hx
   ·simp[AS.set,a1,a2]at hx⊢;exact hx
 rintro m fr σ' ⟨i,p,d,o,D,C0,pl,hm,hi,M,hd,hp,hk,Q,al,rfl⟩;have V:bh≠g:=fun e=>v e.symm;have O:C0 g=some (fW p o bh)∧C0 bh=some (.map (eO D)):=by
  rcases Q with⟨_,_,rfl⟩|⟨n,_,ht,Y,q2,_,rfl⟩
  ·simp[v,V]
  ·simp[v,V,Y.symm,q2.symm]
 have hle:=al.le;have L:=hle _ _ O.1;have b3:=hle _ _ O.2;have a6:∀q:By,q.length≤65536→(65536<(q.length:Int))=False:=by intro q h1;simp;omega
 by_cases ca:i<l.length
 ·obtain⟨x,hg,a3,b6,_⟩:=iF l ca;obtain⟨s,sn⟩:=x;obtain⟨_,c8⟩:=List.getElem?_eq_some_iff.1 hg;have hI:((i:Int)<l.length)=True:=by simp;omega
  have ee:s.length≤300:=hs _ b6;have c4:(65536<(s.length:Int))=False:=by simp;omega
  have ec:s.length≤140737488355328:=by omega
  rw[a3,List.map_cons]at M;simp only[ur]at M;refine gO gU (j4 hI ca @c8 @bV.eq_1) tI ?_;intro aT A;have s1:aT≠g:=nq L A;have s2:aT≠bh:=nq b3 A;have Z:g≠aT:=fun e=>s1 e.symm;have b2:bh≠aT:=fun e=>s2 e.symm;refine gO gU (j2 @c4 @qS) tI ?_;have ar:=al.put (b:= .cells 30 [bV (s,sn)]) (.inl A);have K:∀(a n:Nat),gW s (([],0)::d)=some a→ur ((l.drop (i+1)).map (·.1)) p (d++ [(s,a)])=ur (l.map (·.1)) [0] []→σ n=none→n≠g→n≠bh→PS o p.length (((σ.set bh (.map (eO D))).set g (fW p o bh)).set n (.tok (i+1))) (σ'.set n (.tok (i+1)))→
   ∀(fr:Fr) (σf:AS),aS prog fr (jJ [(5,.ptr g 0),(6,u0 (d++ [(s,a)]) (.tok n)),(14,.an 30 (l.map bV) o0 nl),(15,.sc (.int .i64 l.length)),(16,.sc (.int .i64 (i+1:Nat)))])→AS.le (σ'.set n (.tok (i+1))) σf→Jo prog (U0 l nl o0 σ g bh) m fr σf:=by
   intro a n u a7 h1 h2 h3 h4 fr σf h5 h6;refine⟨m-1,_,_,by clear Q;omega,h5,h6,i+1,p,d++ [(s,a)],o,D,_,_,by clear Q;omega,by clear Q;omega,a7,by simp[hd],by clear Q;omega,?_,.inr ⟨n,by omega,h1,h2,h3,rfl,rfl⟩,h4,rfl⟩;intro s';rw[hk,←List.cons_append,qF];by_cases e:s'=s
   ·subst e;rw[u]
   ·cases h:gW s' (([],0)::d)<;>simp[e]
  have H:∀(w n:Nat),gW s (([],0)::d)=none→ur ((l.drop (i+1)).map (·.1)) (p++lC s) (d++ [(s,p.length)])=ur (l.map (·.1)) [0] []→σ n=none→n≠g→n≠bh→σ w=none→w≠n→w≠g→w≠bh→(p++lC s).length≤65536→
   ∀(fr:Fr) (σf:AS),aS prog fr (jJ [(5,.ptr g 0),(6,u0 (d++ [(s,p.length)]) (.tok n)),(14,.an 30 (l.map bV) o0 nl),(15,.sc (.int .i64 l.length)),(16,.sc (.int .i64 (i+1:Nat)))])→
    AS.le ((((σ.set bh (.map (eO (kV ⟨s.toArray⟩ (.sc (.int .i64 p.length)) D)))).set g (fW (p++lC s) (.tok w) bh)).set n (.tok (i+1))).set w (.tok (p++lC s).length)) σf→Jo prog (U0 l nl o0 σ g bh) m fr σf:=by
   intro w n u a7 h1 h2 h3 k1 k2 k3 k4 hlen fr σf h5 h6;refine⟨m-1,_,_,by clear Q;omega,h5,h6,i+1,p++lC s,d++ [(s,p.length)],.tok w,_,_,_,by clear Q;omega,by clear Q;omega,a7,by simp[hd],hlen,?_,.inr ⟨n,by omega,h1,h2,h3,rfl,rfl⟩,.inr ⟨w,rfl,by simp[AS.set, *],rfl⟩,rfl⟩;intro s';rw[yX,←List.cons_append,qF];by_cases e:s'=s
   ·subst e;rw[u];simp
   ·have:¬((⟨s'.toArray⟩:ByteArray)=⟨s.toArray⟩):=by simpa using e
    rw[if_neg this,hk];cases h:gW s' (([],0)::d)<;>simp[e]
  cases u:gW s (([],0)::d)with
  |some a=>
   rw[u]at M;refine ag.aC (E2 g bh p s o D a _ _ (by simp[Z,L]) (by simp[b2,b3]) (by rw[hk,u];rfl)) ?_;have G:=a6 p hp;have am:p.length≤140737488355328:=by omega
   simp only[fW]at L;rcases Q with⟨h0,rfl,rfl⟩|⟨n,cb,a0,Y,q2,rfl,rfl⟩
   ·have a4:d= []:=List.length_eq_zero_iff.1 (by omega);subst a4;simp-implicitDefEqProofs;intro n;intros;have u4:σ' n=none:=by assumption
    have u5:n≠aT:=by assumption
    have d5:aT≠n:=fun e=>u5 e.symm;have u6:((σ.set bh (.map (eO D))).set g (fW p o bh)) n=none:=by
     cases hh:((σ.set bh (.map (eO D))).set g (fW p o bh)) n with
     |none=>rfl
     |some y=>rw[hle _ _ hh]at u4;cases u4
    have u7:n≠g:=by rintro rfl;simp at u6
    have u8:n≠bh:=by rintro rfl;simp[V]at u6
    have u9:σ n=none:=by simpa[AS.set,u7,u8]using u6
    have ch:g≠n:=fun e=>u7 e.symm;refine gO gU (j4 @L @ch @Z @G) tI ?_;have af:=al.put (i:=n) (b:= .tok (i+1)) (.inl u4);refine K a n u M u9 u7 u8 af _ _ (aS.mk ?_) ?_
    ·simp[g8 (show i<4000000000000000000 by omega),u0,bV]
    ·exact jn (aq A (lR _)) (by simp[h0])
   ·have ht:σ' n=some (.tok i):=hle n _ (by simp[AS.set]);have s3:aT≠n:=nq ht A;have c3:n≠aT:=fun e=>s3 e.symm;have ac:g≠n:=fun e=>Y e.symm;simp-implicitDefEqProofs [u0,ht,hd,s3,c3];refine⟨by omega,?_⟩;refine gO gU (j4 @L @ac @Z @G) tI ?_;have af:=al.put (i:=n) (b:= .tok (i+1)) (.inr ⟨_,by simp[AS.set];rfl⟩);rw[AS.set_set]at af;refine K a n u M a0 Y q2 af _ _ (aS.mk ?_) ?_
    ·simp[g8 (show i<4000000000000000000 by omega),u0,bV]
    ·exact jn (aq A (lR _)) (by simp[hd])
  |none=>
   rw[u]at M;have ei:=gH s.length (by omega) (by omega);have cc:(p++lC s).length≤65536+304:=by simp[lC];omega
   have I:65536<(p++lC s).length→65536<(ur (l.map (·.1)) [0] []).1.length:=fun h=>by rw[←M];exact Nat.lt_of_lt_of_le h (xw _ _ _)
   have am:(p++lC s).length≤140737488355328:=by omega
   have c5:=E1 g bh p (p++lC s) s o D 72 [.ptr aT 0] (C0.set aT (.cells 30 [bV (s,sn)])) _ v (by simp[Z,O.1]) (by simp[b2,O.2]) ar (by rw[hk,u];rfl) (by omega)
    (Hv p (s,sn) o aT _ _ ar (by simp) (by omega) (by simp;omega))
   refine ag.of c5 ?_ (fun _ _ h=>h.elim);generalize eo:p++lC s=P at am cc I H M;rintro r σ2 ⟨w,b4,rfl,rfl⟩;have t1:w≠aT:=by rintro rfl;simp[AS.set]at b4
   have ea:aT≠w:=fun e=>t1 e.symm;have F:C0 w=none:=by simpa[AS.set,t1]using b4
   have t2:w≠g:=by rintro rfl;rw[O.1]at F;cases F
   have t3:w≠bh:=by rintro rfl;rw[O.2]at F;cases F
   have d9:g≠w:=fun e=>t2 e.symm;have d8:bh≠w:=fun e=>t3 e.symm;have E:C0 aT=none:=by
    cases hh:C0 aT with
    |none=>rfl
    |some x=>rw[hle _ _ hh]at A;cases A
   rcases Q with⟨h0,rfl,rfl⟩|⟨n,cb,a0,Y,q2,rfl,rfl⟩
   ·have J:σ aT=none:=by simpa[AS.set,s1,s2]using E
    have X:σ w=none:=by simpa[AS.set,t2,t3]using F
    have a4:d= []:=List.length_eq_zero_iff.1 (by omega);subst a4;simp-implicitDefEqProofs;intro n;intros;have u1:n≠bh:=by assumption
    have u2:n≠g:=by assumption
    have u3:n≠w:=by assumption
    have u5:σ n=none:=by assumption
    have bs:w≠n:=fun e=>u3 e.symm;have bv:g≠n:=fun e=>u2 e.symm;have d7:bh≠n:=fun e=>u1 e.symm;by_cases a5:65536<P.length
    ·have G:(65536<(P.length:Int))=True:=eq_true (by omega);refine gO gU (j4 @fW.eq_1 @bv @v @G) tI ?_;refine⟨CB (I a5),?_⟩;repeat (first|exact lR _ |refine AS.ah ?_ (by assumption))
    have T:P.length≤65536:=by omega
    have G:=a6 P T;refine gO gU (j4 @fW.eq_1 @bv @v @G) tI ?_;refine H w n u M u5 u2 u1 X bs t2 t3 T _ _ (aS.mk ?_) ?_
    ·simp[g8 (show i<4000000000000000000 by omega),u0,bV]
    ·have:=Jt (B:=σ) (a:= .tok P.length) (b:= .tok (i+1)) (c:=fW P (.tok w) bh) (d:= .map (eO (kV ⟨s.toArray⟩ (.sc (.int .i64 p.length)) D))) (c0:=fW p o bh) (d0:= .map (eO D)) (e:= .cells 30 [bV (s,sn)]) bs t2 t3 u2 u1 v J s1 s2;simpa[h0,fW,bV]using this
   ·have J:σ aT=none:=by
     have b5:aT≠n:=by rintro rfl;simp[AS.set]at E
     simpa[AS.set,s1,s2,b5]using E
    have t4:w≠n:=by rintro rfl;simp[AS.set]at F
    have c2:n≠w:=fun e=>t4 e.symm;have X:σ w=none:=by simpa[AS.set,t2,t3,t4]using F
    have s3:n≠aT:=by rintro rfl;simp[AS.set]at E
    have ac:g≠n:=fun e=>Y e.symm;have eb:bh≠n:=fun e=>q2 e.symm;simp-implicitDefEqProofs [u0,Y,q2,c2,s3,hd];refine⟨by omega,?_⟩;by_cases a5:65536<P.length
    ·have G:(65536<(P.length:Int))=True:=eq_true (by omega);refine gO gU (j4 @fW.eq_1 @ac @v @G) tI ?_;refine⟨CB (I a5),?_⟩;repeat (first|exact lR _ |refine AS.ah ?_ (by assumption))
    have T:P.length≤65536:=by omega
    have G:=a6 P T;refine gO gU (j4 @fW.eq_1 @ac @v @G) tI ?_;refine H w n u M a0 Y q2 X t4 t2 t3 T _ _ (aS.mk ?_) ?_
    ·simp[g8 (show i<4000000000000000000 by omega),u0,bV]
    ·have:=Js (B:=σ) (a:= .tok P.length) (b:= .tok (i+1)) (b0:= .tok i) (c:=fW P (.tok w) bh) (d:= .map (eO (kV ⟨s.toArray⟩ (.sc (.int .i64 p.length)) D))) (c0:=fW p o bh) (d0:= .map (eO D)) (e:= .cells 30 [bV (s,sn)]) t4 t2 t3 Y q2 v J s1 s2;simpa[hd,fW,bV]using this
 ·have hI:((i:Int)<l.length)=False:=by simp;omega
  have a3:l.drop i= []:=List.drop_eq_nil_of_le (by omega);rw[a3]at M;simp only[List.map_nil,ur]at M;have c6:¬65536<p.length:=by omega
  have hE:Pu (l.map (·.1))= .bQ [.an 5 (p.map u8) .aE false,.an 3 (d.map fun q=> .sc (.int .i64 q.2)) .aE (decide (l= [])),.sc (.int .i64 0)]:=by unfold Pu cg;rw[←M];simp[c6,aG,Function.comp_def]
  rw[hE];repeat (first
   |(with_reducible first|apply ae.seq|apply ae.block|refine j2 (by first|omega|assumption|decide) ?_)
   |((first|(with_reducible first|apply ae.fork|apply ae.region|show aN _ _ _ |show aB _ _ _ _ _ _ _ _ _)|((with_reducible apply ag.id);first|apply ag.aC (Cq g bh p o _ _ L (by omega) (by omega))));simp-implicitDefEqProofs [hI])
   |((with_reducible first|apply ae.ret|apply ae.skip|apply ae.exit);try simp-implicitDefEqProofs [hI]))
  refine⟨jB (by simp) ?_ (by simp),AS.le_trans ?_ hle⟩
  ·rcases Q with⟨h0,rfl,_⟩|⟨n,cb,_,_,_,rfl,_⟩
   ·have h1:d= []:=List.length_eq_zero_iff.1 (by omega);have h2:l= []:=List.length_eq_zero_iff.1 (by omega);subst h1 h2;simp
   ·have h2:decide (l= [])=false:=by
     have:l≠ []:=by rintro rfl;simp at hi;omega
     simp[this]
    rw[h2];simp[u0]
  ·rcases Q with⟨_,_,rfl⟩|⟨n,_,ht,Y,q2,_,rfl⟩
   ·exact aq (by simp[*]) (aq ap (lR _))
   ·exact aq (by simp[*]) (aq (by simp[*]) (aq ap (lR _)))
end Pl
namespace Rw
open Go Go.AW Tryz
theorem ja (S:List Nat):aH prog [] S:=mixed
def iV (x:List Int×Bool):AV:= .an 3 (x.1.map aV) .aE x.2
def lV (x:List (List Int×Bool)×Bool):AV:= .an 44 (x.1.map iV) .aE x.2
abbrev KV:=List (List (List Int×Bool)×Bool)
def Sz (en:Int) (R:KV) (o:cL) (nl:Bool):AV:= .agg [.sc (.int .i64 en),.an 94 (R.map lV) o nl]
def vb (x:List (List Int×Bool)×Bool):List (List Int):=x.1.map (·.1)
def pl (R:KV):List (List (List Int)):=R.map vb
def fG (x w:Int):Bool:=decide (0≤x)&&(decide (w=2)&&decide (x<65536)||decide (w=4)&&decide (x<4294967296))
theorem A7 (k:UInt8) (m:Nat):wK k m=2∨wK k m=4:=by unfold wK;split<;>simp
theorem qM (x w:Int) (hw:w=2∨w=4) (σ:AS):aa prog 76 [.sc (.int .i64 x),.sc (.int .i64 w)] σ (ao (.sc (.bool (fG x w))) σ) No:=by
 refine aa.ob func76 ?_;by_cases h0:0≤x
 ·rcases hw with rfl|rfl
  ·by_cases h1:x<65536
   ·refine gO ja (j2 @h0 @h1) tI ?_;simp[fG,h0,h1]
   ·refine gO ja (j2 @h0 @h1) tI ?_;simp[fG,h0,h1]
  ·by_cases h1:x<4294967296
   ·refine gO ja (j2 @h0 @h1) tI ?_;simp[fG,h0,h1]
   ·refine gO ja (j2 @h0 @h1) tI ?_;simp[fG,h0,h1]
 ·refine gO ja @h0 tI ?_;simp[fG,h0]
theorem sC {x w:Int}(h:fG x w=true):0≤x∧x<4294967296∧x<256^w.toNat:=by
 simp only[fG,Bool.and_eq_true,Bool.or_eq_true,decide_eq_true_eq]at h;rcases h.2 with⟨rfl,d⟩|⟨rfl,d⟩
 ·exact⟨h.1,by omega,by simpa using d⟩
 ·exact⟨h.1,d,by simpa using d⟩
def gC (l:By) (d:Nat) (nl:Bool):bN:= .cells 30 [.an 5 (l.map u8) (.tok d) nl]
theorem EC (id d:Nat) (l:By) (nl:Bool) (x w:Int) (hw:w=2∨w=4) (hf:fG x w=false) (σ:AS):aa prog 75 [.ptr id 0,.sc (.int .i64 x),.sc (.int .i64 w)] σ (ao (.sc (.bool false)) σ) No:=by have h:=fun σ=>qM x w hw σ;rw[hf]at h;refine aa.ob func75 ?_;exact gE ja tI @h
theorem LM (x n:Int) (j:0≤x) (g:x<18446744073709551616) (hw:wide n=true) (σ:AS):
 aa prog 77 [.ai,.sc (.int .u64 x),.sc (.int .i64 n)] σ (la (fun d=> .bQ [.an 5 ((bg x n.toNat).map u8) (.tok d) false,.sc (.int .i64 0)]) n.toNat σ) No:=by
 have h:aa prog 77 [.ai,.sc (.int .u64 x),.sc (.int .i64 n)] σ (la (fun d=> .bQ [.an 5 (([]++bg x n.toNat).map u8) (.tok d) false,.sc (.int .i64 0)]) (([]:By).length+n.toNat) σ) No:=
  (oC [] .aE true (by simp) (by simp) x n j g hw σ).wk _ rfl (fun i l=>by
  match i,l with
  |0,_ =>simp
  |1,_ =>simp
  |2,_ =>simp)
 simpa using h
theorem EB (id u:Nat) (l:By) (nl:Bool) (x w:Int) (hw:w=2∨w=4) (hf:fG x w=true) (hl:l.length≤100000000) (σ:AS) (o:σ id=some (gC l u nl)) (v:σ u=some (.tok l.length)) (y:¬id=u):
 aa prog 75 [.ptr id 0,.sc (.int .i64 x),.sc (.int .i64 w)] σ (ao (.sc (.bool true)) ((σ.set id (gC (l++bg x w.toNat) u false)).set u (.tok (l.length+w.toNat)))) No:=by
 have h:=fun σ=>qM x w hw σ;rw[hf]at h;have S:=sC hf;have L:IntKind.u64.wrap x=x:=nw (by omega) (by omega);have O:=fun σ=>LM x w (by omega) (by omega) (by rcases hw with rfl|rfl<;>rfl) σ;have E:=aA y;have I:=ax x w.toNat;have J:(bg x w.toNat).isEmpty=false:=by rcases hw with rfl|rfl<;>rfl
 have M:w.toNat≤4:=by omega
 generalize bg x w.toNat=Q at*;simp only[gC]at o⊢;refine aa.ob func75 ?_;refine gO ja @L (j2 @h @O) ?_;intro q i;have g:¬id=q:=nq o i;have n:=aA g;have d:¬u=q:=nq v i;have j:=aA d;refine gO ja (j7 @y @J @I g @o d @v) tI ?_;have K:=(j2 (j7 i @y @E n g @o j) (j2 d @v));intro H P;refine gK K H id fun G=>gK K H u fun F=>gK K H q fun A=> ?_;intro D;simp[AS.set,G,F,A]at D⊢;try exact D
theorem iZ (S:List Nat):aH prog [] S:=mixed
def iy:Nat→List (List (List Int))→Bool
 | _,[]=>true
 |t,l::r=>l.all (fun row=>decide (row.length=(bF t).length))&&iy (t+1) r
def ff (R:List (List (List Int))):Bool:=decide (R.length=6)&&iy 0 R
def WV (R:KV) (o:cL) (nl:Bool) (B:AS) (m:Nat) (f:Fr) (σ':AS):Prop:=
 ∃i:Nat,m=R.length-i∧i≤R.length∧iy 0 (pl R)=iy i ((pl R).drop i)∧σ'=B∧
  f=jJ [(12,.an 94 (R.map lV) o nl),(13,.sc (.int .i64 R.length)),(14,.sc (.int .i64 i))]
def WW (R:KV) (o:cL) (nl:Bool) (i:Nat) (x:List (List Int×Bool)×Bool) (X:Bool) (B:AS) (m:Nat) (f:Fr) (σ':AS):Prop:=
 ∃k:Nat,m=x.1.length-k∧k≤x.1.length∧(((vb x).drop k).all (fun row=>decide (row.length=(bF i).length))&&iy (i+1) ((pl R).drop (i+1)))=X∧σ'=B∧
  f=jJ [(3,.sc (.int .i64 i)),(12,.an 94 (R.map lV) o nl),(13,.sc (.int .i64 R.length)),(14,.sc (.int .i64 i)),(19,lV x),(20,.sc (.int .i64 x.1.length)),(21,.sc (.int .i64 k))]
theorem uc (en:Int) (R:KV) (o:cL) (nl:Bool) (hR:R.length≤1000) (Z:∀x∈R,x.1.length≤20000) (hc:∀x∈R,∀y∈x.1,y.1.length≤1000) (σ:AS):
 aa prog 74 [Sz en R o nl] σ (ao (.sc (.bool (ff (pl R)))) σ) No:=by
 have n:=fun t σ=>Ec t σ;refine aa.ob func74 ?_;simp only[Sz];refine gO iZ tI tI ?_;intro V j;by_cases I:R.length=6
 ·refine gO iZ @I tI ?_;obtain⟨B,F,al,T,w⟩:=I2 σ (.cells 63 [.sc (.int .i64 en),.an 94 (R.map lV) o nl]) j;simp only[F];clear F;have hle:AS.le σ B:=w B fun _ _ _ h=>h;have hS:ff (pl R)=iy 0 (pl R):=by simp[ff,pl,I]
  rw[hS];refine ae.dx (WV R o nl B) (k0:=R.length) ⟨0,by omega,by omega,by simp,rfl,rfl⟩ (aS.mk (by simp[I])) (lR _) ?_;rintro m f σ' ⟨i,hm,hi,v,Y,rfl⟩;subst σ';by_cases D:i<R.length
  ·obtain⟨x,hg,hd,A,_⟩:=iF R D;obtain⟨_,L⟩:=List.getElem?_eq_some_iff.1 hg;have P:((i:Int)<R.length)=True:=by simp;omega
   have X:=Z x A;have M:(pl R).drop i=vb x::(pl R).drop (i+1):=by rw[pl,←List.map_drop,hd,List.map_cons,List.map_drop]
   rw[M]at v;simp only[iy]at v;refine gO iZ (j4 P D @L @lV.eq_1) tI ?_;generalize Q:iy 0 (pl R)=F0 at v⊢;refine ae.dx (WW R o nl i x F0 B) (k0:=x.1.length) ⟨0,by omega,by omega,by rw[v,List.drop_zero],rfl,rfl⟩ (aS.mk (by simp[lV])) (lR _) ?_;rintro U f σ' ⟨k,ab,hk,d,Y,rfl⟩;subst σ';by_cases g:k<x.1.length
   ·obtain⟨y,K,O,J,_⟩:=iF x.1 g;obtain⟨_,l⟩:=List.getElem?_eq_some_iff.1 K;have H:((k:Int)<x.1.length)=True:=by simp;omega
    have E:(vb x).drop k=y.1::(vb x).drop (k+1):=by rw[vb,←List.map_drop,O,List.map_cons,List.map_drop]
    rw[E]at d;simp only[List.all_cons]at d;by_cases G:y.1.length=(bF i).length
    ·have q:((y.1.length:Int)=(bF i).length)=True:=by simp;omega
     refine gO iZ (j7 @H @g @l @lV.eq_1 @iV.eq_1 @G @q) @n ?_;refine⟨U-1,_,_,by omega,aS.mk ?_,lR _,k+1,by omega,by omega,by rw[←d];simp[G],rfl,rfl⟩;simp[lV,g8 (show k<4000000000000000000 by omega)]
    ·have q:((y.1.length:Int)=(bF i).length)=False:=by simp;omega
     refine gO iZ (j7 @H @g @l @lV.eq_1 @iV.eq_1 @G @q) @n ?_;rw[←d];simp[G];exact hle
   ·have H:((k:Int)<x.1.length)=False:=by simp;omega
    refine gO iZ @H tI ?_;have u:(vb x).drop k= []:=List.drop_eq_nil_of_le (by simp[vb];omega);rw[u]at d;refine⟨m-1,_,_,by omega,aS.mk ?_,lR _,i+1,by omega,by omega,by rw[Q,←d];rfl,rfl,rfl⟩;simp[g8 (show i<4000000000000000000 by omega)]
  ·have P:((i:Int)<R.length)=False:=by simp;omega
   have u:(pl R).drop i= []:=List.drop_eq_nil_of_le (by simp[pl];omega);rw[u]at v;refine gO iZ P tI ?_;rw[v];simp[iy];exact hle
 ·have S:((R.length:Int)=6)=False:=by simp;omega
  refine gO iZ @S tI ?_;simp[ff,pl,I];exact aq j (lR _)
theorem cO (S:List Nat):aH prog [(20,(.step 0 (.step 1 (.step 2 (.step 3 (.step 5 (.pure 6 (.read 4 (.alt 7 (.step 8 .done) .none)))))))))] S:=mixed
theorem y8 (l:By) (j:Nat) {c:UInt8}(h:l[j]? =some c) (g:c.toNat<128):Utf8.decode ⟨l.toArray⟩ j=(c.toNat,1):=by
 obtain⟨d,rfl⟩:=List.getElem?_eq_some_iff.1 h;have e:(ByteArray.get! ⟨l.toArray⟩ j)=l[j]:=by simp[ByteArray.get!,d]
 simp only[Utf8.decode,Nat.add_zero,e];rw[if_pos (by omega)]
theorem uJ (t:Int):∀c∈bF t,c.toNat<128:=by
 unfold bF;intro c d;split at d
 ·revert c;decide
 split at d
 ·revert c;decide
 split at d
 ·revert c;decide
 split at d
 ·revert c;decide
 split at d
 ·revert c;decide
 split at d
 ·revert c;decide
 ·simp at d
def ot:By→List Int→Bool
 |k::d,x::r=>fG x (wK k 0)&&ot d r
 | _,_ =>true
def qY:By→List Int→By
 |k::d,x::r=>bg x (wK k 0).toNat++qY d r
 | _,_ => []
def lQ (t:Nat) (l:List (List Int)):Bool:=l.all (ot (bF t))
def pz (t:Nat) (l:List (List Int)):By:=l.flatMap (qY (bF t))
def allFit:Nat→List (List (List Int))→Bool
 | _,[]=>true
 |t,l::r=>lQ t l&&allFit (t+1) r
def iE:Nat→List (List (List Int))→By
 | _,[]=> []
 |t,l::r=>pz t l++iE (t+1) r
def sK (l:List (List Int)):By:=if l= []then []else bg l.length 2
def kP (R:List (List (List Int))):By:=R.flatMap sK
def mY:Nat→List (List (List Int))→Nat
 | _,[]=>0
 |t,l::r=>(if l= []then 0 else 2^t)+mY (t+1) r
def okW (R:List (List (List Int))) (en:Int):Bool:=allFit 0 R&&fG en 2
def dr (R:List (List (List Int))) (en:Int):By:= [0,UInt8.ofNat (mY 0 R)]++(kP R++bg en 2)++iE 0 R
def WS (id5 id6 tc tb:Nat) (B:AS) (cnt:By) (n1:Bool) (fJ:By) (n2:Bool):AS:=fun j=>
 if j=id5 then some (gC cnt tc n1)else if j=id6 then some (gC fJ tb n2)else if j=tc then some (.tok cnt.length)else if j=tb then some (.tok fJ.length)else B j
theorem WS.TT {id5 id6 tc tb:Nat}{B:AS}{cnt fJ d:By}{n1 n2 g:Bool}{m:Nat}(hm:m=d.length) (w:¬id5=id6) (o:¬id5=tc) (v:¬id5=tb) (n:¬id6=tc) (u:¬id6=tb) (q:¬tc=tb):
 ((WS id5 id6 tc tb B cnt n1 fJ n2).set id5 (gC d tc g)).set tc (.tok m)=WS id5 id6 tc tb B d g fJ n2:=by
 subst hm;funext j;by_cases h:j=id5
 ·subst h;simp[AS.set,WS,o]
 by_cases i:j=id6
 ·subst i;simp[AS.set,WS,h,n]
 by_cases l:j=tc
 ·subst l;simp[AS.set,WS,h,i]
 ·simp[AS.set,WS,h,i,l]
theorem WS.TS {id5 id6 tc tb:Nat}{B:AS}{cnt fJ d:By}{n1 n2 g:Bool}{m:Nat}(hm:m=d.length) (v:¬id5=id6) (y:¬id5=tc) (u:¬id5=tb) (w:¬id6=tc) (q:¬id6=tb) (o:¬tc=tb):
 ((WS id5 id6 tc tb B cnt n1 fJ n2).set id6 (gC d tb g)).set tb (.tok m)=WS id5 id6 tc tb B cnt n1 d g:=by
 subst hm;funext j;by_cases h:j=id5
 ·subst h;simp[AS.set,WS,v,u]
 by_cases i:j=id6
 ·subst i;simp[AS.set,WS,h,q]
 by_cases l:j=tc
 ·subst l;simp[AS.set,WS,h,i,o]
 by_cases n:j=tb
 ·subst n;simp[AS.set,WS,h,i,l]
 ·simp[AS.set,WS,h,i,l,n]
theorem WS.out {id5 id6 tc tb j:Nat}{B:AS}{cnt fJ:By}{n1 n2:Bool}{x:bN}(l:¬j=id5) (h:¬j=id6) (g:¬j=tc) (d:¬j=tb):
 (WS id5 id6 tc tb B cnt n1 fJ n2).set j x=WS id5 id6 tc tb (B.set j x) cnt n1 fJ n2:=by
 funext i;by_cases e:i=j
 ·subst e;simp[AS.set,WS,l,h,g,d]
 ·simp[AS.set,WS,e]
theorem WS.le {id5 id6 tc tb:Nat}{B B':AS}{cnt fJ:By}{n1 n2:Bool}(h:AS.le B B'):AS.le (WS id5 id6 tc tb B cnt n1 fJ n2) (WS id5 id6 tc tb B' cnt n1 fJ n2):=by
 intro j y d;simp only[WS]at d⊢;by_cases g:j=id5
 ·simpa[g]using d
 by_cases i:j=id6
 ·simpa[g,i]using d
 by_cases l:j=tc
 ·simpa[g,i,l]using d
 by_cases n:j=tb
 ·simpa[g,i,l,n]using d
 ·simp[g,i,l,n]at d⊢;exact h j y d
theorem yV:∀ {L:List (List (List Int))}{t k:Nat}{l:List (List Int)},iy t L=true→L[k]? =some l→ ∀row∈l,row.length=(bF ((t+k:Nat):Int)).length:=by
 intro L;induction L with
 |nil=>intro t k l _ h;simp at h
 |cons x r i=>
  intro t k l g h row d;simp only[iy,Bool.and_eq_true]at g;cases k with
  |zero=>simp at h;subst h;have:=List.all_eq_true.1 g.1 row d;simpa using this
  |succ k=>simp at h;have:=i g.2 h row d;rw[this,show t+1+k=t+(k+1) by omega]
theorem qJ (t:Int):(bF t).length≤6:=by unfold bF;split<;>(try split)<;>(try split)<;>(try split)<;>(try split)<;>(try split)<;>simp
def zi (W:By) (ok:Bool) (σ:AS) (r:AV) (σ':AS):Prop:=
 (ok=true∧la (fun d=> .bQ [.an 5 (W.map u8) (.tok d) false,.sc (.int .i64 0)]) W.length σ r σ')∨(ok=false∧ao (.bQ [.ai,.sc (.int .i64 3)]) σ r σ')
theorem zi.no {W:By}{ok:Bool}{σ d:AS}(h:ok=false) (hle:AS.le σ d):AW.Ends prog (zi W ok σ) d (.bQ [.ai,.sc (.int .i64 3)]):=
 ⟨_,σ,Wk.refl _,hle,.inr ⟨h,rfl,rfl⟩⟩
theorem OF (d i:Nat) (l:i<32) (h:d<2^i):IntKind.i64.wrap (C4 64 (d:Int) (IntKind.i64.wrap (2^min i 64)))=(d:Int)+2^i:=by
 have h1:(2:Nat)^i≤2^31:=Nat.pow_le_pow_right (by omega) (by omega);have j:((2:Int)^i)=((2^i:Nat):Int):=by push_cast;rfl
 have g:=oG (w:=64) (a:=(2:Int)^i) (b:=d) i (by omega) (by rw[j];exact_mod_cast h) (c:=1) (by omega) (by omega);rw[show min i 64=i by omega];generalize n:(2:Nat)^i=P at*;rw[j]at g⊢;rw[show IntKind.i64.wrap (P:Int)=P from ay (by omega) (by omega),qj,g (by omega),ay (by omega) (by omega)];omega
def V5 (R:KV) (o:cL) (nl:Bool) (ok h:Bool) (g id5 id6 tc tb:Nat) (B:AS) (m:Nat) (f:Fr) (σ':AS):Prop:=
 ∃(i d:Nat) (cnt fJ:By),m=R.length-i∧i≤R.length∧ok=(allFit i ((pl R).drop i)&&h)∧d+mY i ((pl R).drop i)=mY 0 (pl R)∧d<2^i∧
  cnt++kP ((pl R).drop i)=kP (pl R)∧fJ++iE i ((pl R).drop i)=iE 0 (pl R)∧cnt.length≤2*i∧fJ.length≤480000*i∧σ'=WS id5 id6 tc tb B cnt (decide (cnt= [])) fJ (decide (fJ= []))∧
  f=jJ [(1,.ptr g 0),(4,.sc (.int .i64 d)),(5,.ptr id5 0),(6,.ptr id6 0),(7,.sc (.func (.func 75) #[] #[])),(20,.an 94 (R.map lV) o nl),(21,.sc (.int .i64 R.length)),(22,.sc (.int .i64 i))]
def V7 (R:KV) (o:cL) (nl:Bool) (ok:Bool) (i g:Nat) (x:List (List Int×Bool)×Bool) (cnt h j:By) (l:Bool) (d id5 id6 tc tb:Nat) (B:AS) (m:Nat) (f:Fr) (σ':AS):Prop:=
 ∃(k:Nat) (fJ:By),m=x.1.length-k∧k≤x.1.length∧ok=(lQ i ((vb x).drop k)&&l)∧fJ++(pz i ((vb x).drop k)++h)=j∧fJ.length≤480000*i+24*k∧
  σ'=WS id5 id6 tc tb B cnt false fJ (decide (fJ= []))∧
  f=jJ [(1,.ptr d 0),(4,.sc (.int .i64 g)),(5,.ptr id5 0),(6,.ptr id6 0),(7,.sc (.func (.func 75) #[] #[])),(8,.sc (.int .i64 i)),(20,.an 94 (R.map lV) o nl),(21,.sc (.int .i64 R.length)),(22,.sc (.int .i64 i)),
   (39,lV x),(40,.sc (.int .i64 x.1.length)),(41,.sc (.int .i64 k))]
def V6 (R:KV) (o:cL) (nl:Bool) (ok:Bool) (i h k:Nat) (x:List (List Int×Bool)×Bool) (y:List Int×Bool) (d cnt l n:By) (q:Bool) (b0:Nat) (it g id5 id6 tc tb:Nat) (B:AS) (m:Nat) (f:Fr) (σ':AS):Prop:=
 ∃(j:Nat) (fJ:By),m=d.length-j∧j≤d.length∧ok=(ot (d.drop j) (y.1.drop j)&&q)∧fJ++(qY (d.drop j) (y.1.drop j)++l)=n∧fJ.length≤b0+4*j∧
  σ'=WS id5 id6 tc tb (B.set it (.lT ⟨d.toArray⟩ j)) cnt false fJ (decide (fJ= []))∧
  f=jJ [(1,.ptr g 0),(4,.sc (.int .i64 h)),(5,.ptr id5 0),(6,.ptr id6 0),(7,.sc (.func (.func 75) #[] #[])),(8,.sc (.int .i64 i)),(11,iV y),(12,.sc (.int .i64 j)),(20,.an 94 (R.map lV) o nl),(21,.sc (.int .i64 R.length)),(22,.sc (.int .i64 i)),
   (39,lV x),(40,.sc (.int .i64 x.1.length)),(41,.sc (.int .i64 k)),(47,.ptr it 0)]
theorem F5 (en:Int) (R:KV) (o:cL) (nl:Bool) (hr:∀x∈R,x.1.length≤20000) (hc:∀x∈R,∀y∈x.1,y.1.length≤1000) (hF:ff (pl R)=true) (σ:AS):
 aa prog 32 [Sz en R o nl] σ (zi (dr (pl R) en) (okW (pl R) en) σ) No:=by
 have h6:R.length=6:=by simp[ff,pl]at hF;exact hF.1
 have f0:iy 0 (pl R)=true:=by simp[ff]at hF;exact hF.2
 have hf:=fun σ=>uc en R o nl (by omega) hr hc σ;rw[hF]at hf;have dn:=fun t σ=>wX t σ;simp only[Sz,zz]at hf dn⊢;refine aa.ob func32 ?_;refine gO cO tI tI ?_;intro av ci;refine gO cO tI @hf ?_;intro id5 P ch;have S:=aA P;refine gO cO tI tI ?_;intro id6 D O ce;have d:=aA D;have Q:=aA O;refine gO cO (j2 S Q) tI ?_;refine ae.pO id5 0 5 [] true (ty:=30) (cs:= [.ai]) (by simp[d]) (by simp) (.inr ⟨by simp,rfl,rfl⟩) ?_;simp-implicitDefEqProofs [D];intro tc H V X d5;have q:=aA H;have A:=aA V;have ap:=aA X;refine ae.pO id6 0 5 [] true (ty:=30) (cs:= [.ai]) (by simp[q]) (by simp) (.inr ⟨by simp,rfl,rfl⟩) ?_;simp-implicitDefEqProofs [H];intro tb al Y Z ab d6;have M:=aA al;have u:=aA Y;have I:=aA Z;have ar:=aA ab;obtain⟨B,ee,cj,am,c2⟩:=I2 σ (.cells 63 [.sc (.int .i64 en),.an 94 (R.map lV) o nl]) ci;simp only[ee];clear ee;have f7:B id5=none:=by rw[am id5 P];exact ch
 have f6:B id6=none:=by rw[am id6 O];exact ce
 have f4:B tc=none:=by rw[am tc X];exact d5
 have f5:B tb=none:=by rw[am tb ab];exact d6
 have q1:∀C cnt n1 fJ n2,(WS id5 id6 tc tb C cnt n1 fJ n2) av=C av:=fun C cnt n1 fJ n2=>by simp[WS,S,Q,ap,ar]
 have q5:∀C cnt n1 fJ n2,(WS id5 id6 tc tb C cnt n1 fJ n2) id5=some (gC cnt tc n1):=fun C cnt n1 fJ n2=>by simp[WS]
 have q6:∀C cnt n1 fJ n2,(WS id5 id6 tc tb C cnt n1 fJ n2) id6=some (gC fJ tb n2):=fun C cnt n1 fJ n2=>by simp[WS,D]
 have qc:∀C cnt n1 fJ n2,(WS id5 id6 tc tb C cnt n1 fJ n2) tc=some (.tok cnt.length):=fun C cnt n1 fJ n2=>by simp[WS,V,H]
 have qb:∀C cnt n1 fJ n2,(WS id5 id6 tc tb C cnt n1 fJ n2) tb=some (.tok fJ.length):=fun C cnt n1 fJ n2=>by simp[WS,Z,Y,al]
 have a7:∀C cnt n1 fJ n2 x,fG x 2=true→cnt.length≤1000→aa prog 75 [.ptr id5 0,.sc (.int .i64 x),.sc (.int .i64 2)] (WS id5 id6 tc tb C cnt n1 fJ n2) (ao (.sc (.bool true)) (WS id5 id6 tc tb C (cnt++bg x 2) false fJ n2)) No:=by intro C cnt n1 fJ n2 x hx hl;have h:=EB id5 tc cnt n1 x 2 (.inl rfl) hx (by omega) _ (q5 C cnt n1 fJ n2) (qc C cnt n1 fJ n2) A;rwa [WS.TT (by simp[ax]) d A I q u M]at h
 have c1:∀C cnt n1 fJ n2 x w,(w=2∨w=4)→fG x w=true→fJ.length≤10000000→aa prog 75 [.ptr id6 0,.sc (.int .i64 x),.sc (.int .i64 w)] (WS id5 id6 tc tb C cnt n1 fJ n2) (ao (.sc (.bool true)) (WS id5 id6 tc tb C cnt n1 (fJ++bg x w.toNat) false)) No:=by intro C cnt n1 fJ n2 x w hw hx hl;have h:=EB id6 tb fJ n2 x w hw hx (by omega) _ (q6 C cnt n1 fJ n2) (qb C cnt n1 fJ n2) u;rwa [WS.TS (by simp[ax]) d A I q u M]at h
 have hle:∀C cnt n1 fJ n2,AS.le B C→AS.le σ (WS id5 id6 tc tb C cnt n1 fJ n2):=fun C cnt n1 fJ n2 h=>c2 _ fun j hj y T=>by
  have e5:j≠id5:=by rintro rfl;rw[f7]at T;cases T
  have e6:j≠id6:=by rintro rfl;rw[f6]at T;cases T
  have ec:j≠tc:=nq f4 T;have eb:j≠tb:=nq f5 T;simp only[WS,e5,e6,ec,eb,if_false];exact h j y T
 have hlen:(pl R).length=6:=by simp[pl,h6]
 refine ae.dx (V5 R o nl (okW (pl R) en) (fG en 2) av id5 id6 tc tb B) (k0:=R.length) ⟨0,0,[],[],by omega,by omega,by simp[okW],by simp,by simp,by simp,by simp,by simp,by simp,rfl,rfl⟩ (aS.mk (by simp)) ?_ ?_
 ·intro j y T;simp only[WS]at T;by_cases e1:j=id5
  ·subst e1;simp[AS.set,gC,d,A,I]at T⊢;exact T
  by_cases e2:j=id6
  ·subst e2;simp[AS.set,gC,e1,q,u]at T⊢;exact T
  by_cases e3:j=tc
  ·subst e3;simp[AS.set,e1,e2,M]at T⊢;exact T
  by_cases e4:j=tb
  ·subst e4;simp[AS.set,e1,e2,e3]at T⊢;exact T
  ·simp[AS.set,e1,e2,e3,e4]at T⊢;exact T
 rintro m f σ' ⟨i,th,cnt,fJ,hm,hi,L,af,c7,g,F,lc,lb,hs,rfl⟩;subst σ';by_cases cc:i<R.length
 ·obtain⟨x,hg,hd,a9,_⟩:=iF R cc;obtain⟨_,d3⟩:=List.getElem?_eq_some_iff.1 hg;have hI:((i:Int)<R.length)=True:=by simp;omega
  have g3:=hr x a9;have fk:(pl R).drop i=vb x::(pl R).drop (i+1):=by rw[pl,←List.map_drop,hd,List.map_cons,List.map_drop]
  rw[fk]at L af g F;simp only[allFit,mY,iE,kP,List.flatMap_cons]at L af g F;by_cases hz:x.1= []
  ·have b4:vb x= []:=by simp[vb,hz]
   rw[b4]at L af g F;simp[lQ,sK,pz]at L af g F;refine gO cO (j5 hI cc @d3 @lV.eq_1 @hz) tI ?_;refine⟨m-1,_,_,by omega,aS.mk ?_,lR _,i+1,th,cnt,fJ,by omega,by omega,by simpa using L,af,by rw[Nat.pow_succ];omega,g,F,by omega,by omega,rfl,rfl⟩;simp[g8 (show i<4000000000000000000 by omega)]
  ·have b4:vb x≠ []:=by simp[vb,hz]
   have c8:(vb x).length=x.1.length:=by simp[vb]
   simp only[sK,b4,if_false]at af g;have fi:fG (x.1.length:Int) 2=true:=by simp[fG];omega
   have b3:=a7 B cnt (decide (cnt= [])) fJ (decide (fJ= [])) x.1.length fi (by omega);refine gO cO (j5 hI cc @d3 @lV.eq_1 @hz) @b3 ?_;refine ae.dx (V7 R o nl (okW (pl R) en) i (th+2^i) x (cnt++bg x.1.length 2) (iE (i+1) ((pl R).drop (i+1))) (iE 0 (pl R)) (allFit (i+1) ((pl R).drop (i+1))&&fG en 2) av id5 id6 tc tb B) (k0:=x.1.length) ⟨0,fJ,by omega,by omega,by rw[L,Bool.and_assoc];rfl,by rw[←F];simp,by omega,rfl,rfl⟩ (aS.mk ?_) (lR _) ?_
   ·simp[lV];exact Qu (OF th i (by omega) c7)
   rintro m2 f σ' ⟨k,b0,g5,hk,ac,K,g1,hs,rfl⟩;subst σ';by_cases bb:k<x.1.length
   ·obtain⟨y,fe,fw,a1,_⟩:=iF x.1 bb;obtain⟨_,dp⟩:=List.getElem?_eq_some_iff.1 fe;have hK:((k:Int)<x.1.length)=True:=by simp;omega
    have g2:=hc x a9 y a1;have d4:(vb x).drop k=y.1::(vb x).drop (k+1):=by rw[vb,←List.map_drop,fw,List.map_cons,List.map_drop]
    rw[d4]at ac K;simp only[lQ,pz,List.all_cons,List.flatMap_cons]at ac K;have e9:y.1.length=(bF i).length:=by have:=yV (k:=i) (l:=vb x) f0 (by simp[pl,hg]) y.1 (List.mem_map.2 ⟨y,a1,rfl⟩);simpa using this
    have g6:=qJ (i:Int);have fa:=uJ (i:Int);have dl:=fun σ=>dn i σ;generalize de:bF (i:Int)=ks at*;refine gO cO (j5 @hK @bb @dp @lV.eq_1 @iV.eq_1) @dl ?_;intro it G;have w5:¬it=id5:=by rintro rfl;rw[q5]at G;cases G
    have w6:¬it=id6:=by rintro rfl;rw[q6]at G;cases G
    have wc:¬it=tc:=by rintro rfl;rw[qc]at G;cases G
    have wb:¬it=tb:=by rintro rfl;rw[qb]at G;cases G
    have bv:B it=none:=by simpa[WS,w5,w6,wc,wb]using G
    have qt:∀C cnt n1 fJ n2,(WS id5 id6 tc tb C cnt n1 fJ n2) it=C it:=fun C cnt n1 fJ n2=>by simp[WS,w5,w6,wc,wb]
    rw[WS.out w5 w6 wc wb];refine gO cO tI tI ?_;refine ae.dx (V6 R o nl (okW (pl R) en) i (th+2^i) k x y ks (cnt++bg x.1.length 2) ((pz i ((vb x).drop (k+1)))++iE (i+1) ((pl R).drop (i+1))) (iE 0 (pl R)) (lQ i ((vb x).drop (k+1))&&(allFit (i+1) ((pl R).drop (i+1))&&fG en 2)) (480000*i+24*k) it av id5 id6 tc tb B) (k0:=ks.length) ⟨0,b0,by omega,by omega,?_,?_,by omega,rfl,rfl⟩ (aS.mk ?_) (lR _) ?_
    ·rw[ac,List.drop_zero,List.drop_zero,Bool.and_assoc,lQ,de]
    ·rw[List.drop_zero,List.drop_zero,←K];simp[pz,de]
    ·simp[lV,iV]
    rintro m3 f σ' ⟨j,U,g4,hj,E,J,g0,hs,rfl⟩;subst σ';by_cases a2:j<ks.length
    ·obtain⟨kd,fd,fv,ca,_⟩:=iF ks a2;obtain⟨v,fb,ft,e8,_⟩:=iF y.1 (show j<y.1.length by omega);obtain⟨_,bc⟩:=List.getElem?_eq_some_iff.1 fb;rw[fv,ft]at E J;simp only[ot,qY]at E J;have be:=y8 ks j fd (fa kd ca);have c5:=fun σ=>A3 kd 0 (by omega) σ;have a8:=A7 kd 0;have c3:j<y.1.length:=by omega
     have d7:((j:Int)<y.1.length)=True:=by simp;omega
     have c4:=fun C cnt n1 fJ n2 x=>WS.out (id5:=id5) (id6:=id6) (tc:=tc) (tb:=tb) (B:=C) (cnt:=cnt) (n1:=n1) (fJ:=fJ) (n2:=n2) (x:=x) w5 w6 wc wb;have a0:=ax v (wK kd 0).toNat;cases a4:fG v (wK kd 0)with
     |false=>have b5:=fun σ=>EC id6 tb U (decide (U= [])) v (wK kd 0) a8 a4 σ;rw[a4]at E;refine gO cO (j2 (j7 @a2 @be @qt @iV.eq_1 @c3 @d7 @bc) (j2 @aG @c4)) (j2 @c5 @b5) ?_;exact zi.no (by rw[E];rfl) (hle _ _ _ _ _ (aq bv (lR _)))
     |true=>
      have e7:=fun C=>c1 C (cnt++bg x.1.length 2) false U (decide (U= [])) v (wK kd 0) a8 a4 (by omega);rw[a4]at E;refine gO cO (j2 (j7 @a2 @be @qt @iV.eq_1 @c3 @d7 @bc) (j2 @aG @c4)) (j2 @c5 @e7) ?_;have b6:¬(U++bg v (wK kd 0).toNat= []):=by intro e;have:=congrArg List.length e;simp[a0]at this;omega
      refine⟨m3-1,_,_,by omega,aS.mk ?_,lR _,j+1,U++bg v (wK kd 0).toNat,by omega,by omega,by rw[E];simp,by rw[←J];simp,by rw[List.length_append,a0];omega,by simp only[b6,decide_false],rfl⟩;simp[lV,iV,g8 (show j<4000000000000000000 by omega)]
    ·have c9:ks.drop j= []:=List.drop_eq_nil_of_le (by omega);rw[c9]at E J;simp[ot,qY]at E J;have cb:(j<ks.length)=False:=by simp;omega
     refine gO cO (j3 @cb @qt @UZ) tI ?_;refine⟨m2-1,_,_,by omega,aS.mk ?_,WS.le (aq bv (lR _)),k+1,U,by omega,by omega,E,J,by omega,rfl,rfl⟩;simp[lV,g8 (show k<4000000000000000000 by omega)]
   ·have hK:((k:Int)<x.1.length)=False:=by simp;omega
    have cd:(vb x).drop k= []:=List.drop_eq_nil_of_le (by omega);rw[cd]at ac K;simp[lQ,pz]at ac K;have a0:=ax x.1.length 2;have b6:¬(cnt++bg x.1.length 2= []):=by intro e;have:=congrArg List.length e;simp[a0]at this
    refine gO cO @hK tI ?_;refine⟨m-1,_,_,by omega,aS.mk ?_,lR _,i+1,th+2^i,cnt++bg x.1.length 2,b0,by omega,by omega,ac,by omega,by rw[Nat.pow_succ];omega,by rw[c8]at g;simp only[kP,List.append_assoc];exact g,K,by rw[List.length_append,a0];omega,by omega,by simp only[b6,decide_false],rfl⟩;simp[g8 (show i<4000000000000000000 by omega)]
 ·obtain rfl:i=6:=by omega
  have hI:((6:Int)<R.length)=False:=by simp[h6]
  have cd:(pl R).drop 6= []:=List.drop_eq_nil_of_le (by omega);rw[cd]at L af g F;simp[allFit,mY,kP,iE]at L af g F;cases a5:fG en 2 with
  |false=>rw[a5]at L;have b5:=fun σ=>EC id5 tc cnt (decide (cnt= [])) en 2 (.inl rfl) a5 σ;refine gO cO (j3 hI @q1 @cj) @b5 ?_;exact zi.no L (hle _ _ _ _ _ (lR _))
  |true=>
   rw[a5]at L;have b3:=a7 B cnt (decide (cnt= [])) fJ (decide (fJ= [])) en a5 (by omega);have a0:=ax en 2;have c6:IntKind.u8.wrap (th:Int)=((UInt8.ofNat th).toNat:Int):=by rw[A6];simp
   refine gO cO (j6 hI @q1 @cj @q5 @gC.eq_1 @c6) @b3 ?_;intro tk n;have w1:¬tk=av:=by rintro rfl;rw[q1,cj]at n;cases n
   have w5:¬tk=id5:=by rintro rfl;rw[q5]at n;cases n
   have w6:¬tk=id6:=by rintro rfl;rw[q6]at n;cases n
   have wc:¬tk=tc:=by rintro rfl;rw[qc]at n;cases n
   have wb:¬tk=tb:=by rintro rfl;rw[qb]at n;cases n
   have em:=aA w6;have f3:B tk=none:=by simpa[WS,w5,w6,wc,wb]using n
   have ew:σ tk=none:=by rw[←am tk w1];exact f3
   refine gO cO (j3 @em @q6 @gC.eq_1) tI ?_;have bs:dr (pl R) en= [0,UInt8.ofNat th]++(cnt++bg en 2)++fJ:=by rw[dr,af,g,F];rfl
   refine⟨_,_,?_,?_,.inl ⟨L,tk,ew,rfl,rfl⟩⟩
   ·rw[bs];exact iR (by simp)
   ·have hl:(dr (pl R) en).length=cnt.length+(bg en 2).length+1+1+fJ.length:=by rw[bs];simp;omega
    rw[hl];intro j y T;by_cases e:j=tk
    ·subst e;simpa[AS.set]using T
    ·simp[AS.set,e]at T⊢;exact hle B _ _ _ _ (lR _) j y T
end Rw
namespace Im
open Go Go.AW Tryz
theorem cB (S:List Nat):aH prog [] S:=mixed
open Sg (qo oX eN)
open Rg (Cl ic aW)
def kZ (t:Ty) (n:Int):Bool:=decide (¬(t.kind=5∨t.kind=6)∨t.index<n)
def ud (t:Ty) (n:Int):Bool:=dm t&&kZ t n
def ri (t:Ty) (n:Int):Bool:=bE t&&kZ t n
def HC (t:Ty) (n:Int):Bool:=dB t&&kZ t n
theorem wH (t:Ty) (n:Int) (σ:AS):aa prog 114 [cr t,.sc (.int .i64 n)] σ (ao (.sc (.bool (kZ t n))) σ) No:=by
 obtain⟨k,x,d,r⟩:=t;refine aa.ob func114 ?_;simp only[cr,kZ];refine gO cB tI tI ?_;intro id i;by_cases g:k=5
 ·refine gO cB @g tI ?_;all_goals (repeat' (with_reducible apply j2))
  all_goals exact gL tI
 ·by_cases h:k=6
  ·refine gO cB (j2 @g @h) tI ?_;all_goals (repeat' (with_reducible apply j2))
   all_goals exact gL tI
  ·refine gO cB (j2 @g @h) tI ?_;all_goals (repeat' (with_reducible apply j2))
   all_goals exact gL tI
theorem yq {P:Program}{f:FuncId}{args:List AV}{σ:AS}{g:Nat→AV}{n:Nat}{v:AV}(h:aa P f args σ (la g n σ) No) (hw:∀i,AV.Wk P (g i) v):aa P f args σ (ao v σ) No:=
 ⟨h.body,fun G w vals l j=>(h.run G w vals l j).mono fun e w' he=>by
  unfold kS at he⊢;split at he
  ·obtain⟨G',σ',r,a,b,c,i,h0,rfl,rfl⟩:=he;exact⟨G',σ,v,a,b.weaken (AS.ah (lR _) h0),hw i _ _ c,rfl,rfl⟩
  ·obtain⟨x,y,G',σ',r,a,b,c,d⟩:=he;exact d.elim
  ·exact he.elim⟩
theorem mu (t:Ty) (σ:AS):∃v,aa prog 62 [cr t] σ (ao (.bQ [v,.sc (.int .i64 (if dm t=true then 0 else 17))]) σ) No:=by
 by_cases h:dm t=true
 ·rw[if_pos h];exact⟨_,yq (qo t h σ) fun d=>cq (a:= .an 5 ((6::eN t).map u8) (.tok d) false) (qm _ _ _ _ |>.2 trivial) (Wk.refl _)⟩
 ·rw[if_neg h];exact⟨_,oX t (by simpa using h) σ⟩
theorem Cf (t:Ty) (n:Int) (σ:AS):aa prog 53 [cr t,.sc (.int .i64 n)] σ (ao (.sc (.bool (ud t n))) σ) No:=by
 have hw:=fun σ=>mu t σ;have g:=fun σ=>wH t n σ;unfold ud;generalize kZ t n=b at g⊢;cases h:dm t<;>rw[h]at hw<;>obtain⟨k,x,d,r⟩:=t<;>simp only[cr,if_true,Bool.false_eq_true,if_false]at hw g⊢;all_goals
  refine aa.ob func53 ?_;refine gO cB tI tI ?_;intro id i;obtain⟨v,hw⟩:=hw (σ.set id (.cells 49 [.sc (.int .i64 k),.sc (.int .i64 x),.sc (.int .i64 d),.sc (.bool r)]));refine gO cB tI (j2 @hw @g) ?_;all_goals (repeat' (with_reducible apply j2))
  all_goals exact gL tI
theorem Jp (t:Ty) (n:Int) (σ:AS):aa prog 116 [cr t,.sc (.int .i64 n)] σ (ao (.sc (.bool (ri t n))) σ) No:=by
 have hw:=fun σ=>qp t σ;have h:=fun σ=>wH t n σ;unfold ri bE;generalize kZ t n=b at h⊢;cases i:bo t<;>rw[i]at hw<;>obtain⟨k,x,d,r⟩:=t<;>simp only[cr]at hw h⊢
 ·refine aa.ob func116 ?_;refine gO cB tI tI ?_;intro id g;refine gO cB tI @hw ?_;all_goals (repeat' (with_reducible apply j2))
  all_goals exact gL tI
 ·by_cases h1:k=1
  ·subst h1;refine aa.ob func116 ?_;refine gO cB tI tI ?_;intro id g;refine gO cB tI @hw ?_;all_goals (repeat' (with_reducible apply j2))
   all_goals exact gL tI
  ·refine aa.ob func116 ?_;refine gO cB tI tI ?_;intro id g;refine gO cB @h1 (j2 @hw @h) ?_;all_goals (repeat' (with_reducible apply j2))
   all_goals exact gL tI
theorem HB (t:Ty) (n:Int) (σ:AS):aa prog 117 [cr t,.sc (.int .i64 n)] σ (ao (.sc (.bool (HC t n))) σ) No:=by
 have hw:=fun σ=>qp t σ;have g:=fun σ=>wH t n σ;unfold HC dB;generalize kZ t n=b at g⊢;cases i:bo t<;>rw[i]at hw<;>obtain⟨k,x,d,r⟩:=t<;>simp only[cr]at hw g⊢
 ·refine aa.ob func117 ?_;refine gO cB tI tI ?_;intro id h;refine gO cB tI (j2 @hw @g) ?_;all_goals (repeat' (with_reducible apply j2))
  all_goals exact gL tI
 ·cases r;all_goals
   refine aa.ob func117 ?_;refine gO cB tI tI ?_;intro id h;refine gO cB tI (j2 @hw @g) ?_;all_goals (repeat' (with_reducible apply j2))
   all_goals exact gL tI
def FN (c:Cl) (n:Int):Bool:=if c.k=1 then ud ⟨c.a,c.b,c.c,c.r⟩ n else xZ ⟨c.a,c.b,c.c,c.r⟩
theorem uo (c:Cl) (n:Int) (σ:AS):aa prog 124 [ic c,.sc (.int .i64 n)] σ (ao (.sc (.bool (FN c n))) σ) No:=by
 have hf:=fun σ=>Cf ⟨c.a,c.b,c.c,c.r⟩ n σ;unfold FN;generalize ud ⟨c.a,c.b,c.c,c.r⟩ n=b at hf⊢;obtain⟨k,tf,tt,g,ht,fl,a,i,h,r⟩:=c;simp only[cr,aW,xZ]at hf⊢;refine aa.ob func124 ?_;refine gO cB tI tI ?_;intro id d;by_cases h1:k=1
 ·refine gO cB @h1 @hf ?_;all_goals (repeat' (with_reducible apply j2))
  all_goals exact gL tI
 ·refine gO cB @h1 @hf ?_;all_goals (repeat' (with_reducible apply j2))
  all_goals exact gL tI
def dZ (x:db) (nt nf nm n:Int):Bool:=
 decide (uO x=0)&&(if (nj x.op).2.1=5 then decide (x.arg<n)else if (nj x.op).2.1=6 then decide (x.arg<nm)else if (nj x.op).2.1=7 then decide (x.arg<nf)else kZ x.t nt)
theorem instr_ok (x:db) (g:bZ) (n:Int) (σ:AS):aa prog 121 [aJ x,pD g,.sc (.int .i64 n)] σ (ao (.sc (.bool (dZ x g.ts.length g.fs.length g.ms.length n))) σ) No:=by
 have hf:=fun σ=>B3 x σ;have j:=fun σ=>sT x.op σ;have hw:=fun σ=>wH x.t g.ts.length σ;unfold dZ;generalize kZ x.t g.ts.length=b at hw⊢;generalize uO x=E at hf⊢;generalize DE x.op=F at j;obtain⟨op,arg,k,G,d,r⟩:=x;simp only[iw,b9,jq,cr]at hf j hw⊢;generalize nj op=tt at j⊢;obtain⟨t1,t2,t3⟩:=tt;simp only at j⊢;refine aa.ob func121 ?_;refine gO cB tI tI ?_;intro id D;refine gO cB tI tI ?_;intro A ne w;have ne':=aA ne;by_cases h0:E=0
 ·refine gO cB (j2 @ne' @h0) (j2 @hf @j) ?_;intro id3 l o v;have h:=aA o;have i:=aA l;by_cases u:t2=5
  ·refine gO cB (j3 @ne' @h @u) tI ?_;all_goals (repeat' (with_reducible apply j2))
   all_goals exact gL tI
  ·by_cases q:t2=6
   ·refine gO cB (j4 @ne' @h @i @q) tI ?_;all_goals (repeat' (with_reducible apply j2))
    all_goals exact gL tI
   ·by_cases y:t2=7
    ·refine gO cB (j6 @ne' @h @i @u @q @y) @hw ?_;all_goals (repeat' (with_reducible apply j2))
     all_goals exact gL tI
    ·refine gO cB (j6 @ne' @h @i @u @q @y) @hw ?_;all_goals (repeat' (with_reducible apply j2))
     all_goals exact gL tI
 ·refine gO cB (j2 @ne' @h0) (j2 @hf @j) ?_;all_goals (repeat' (with_reducible apply j2))
  all_goals exact gL tI
theorem cZ (S:List Nat):aH prog [] S:=mixed
def yY (f n:Int):Bool:=decide (f<0∨n≤f)
def NW (t:TD) (n:Int):Bool:=da t.name&&(decide (0≤t.flags∧t.flags≤31∧ -1≤t.ext∧t.ext<n∧t.aZ.length≤4)&& !t.aZ.any (fun f=>yY f n))
theorem C8 (f n:Int) (id:Nat) (σ:AS) (h:σ id=some (.cells 3 [.sc (.int .i64 n)])):
 aa prog 51 [iV f,.ptr id 0] σ (ao (.sc (.bool (yY f n))) σ) No:=by
 refine aa.ob func51 ?_;simp only[Ad,yY];by_cases h0:f<0
 ·exact gE cZ (j2 @h0 @h) tI;all_goals (repeat' (with_reducible apply j2))
  all_goals exact gL @h0
 ·exact gE cZ (j2 @h0 @h) tI;all_goals (repeat' (with_reducible apply j2))
  all_goals exact gL @h0
theorem Gc (t:TD) (hl:t.aZ.length≤140737488355328) (w:t.name.length≤140737488355328) (n:Int) (id:Nat) (σ:AS) (h:σ id=some (.cells 3 [.sc (.int .i64 n)])):
 aa prog 49 [kE t,.ptr id 0] σ (ao (.sc (.bool (!NW t n))) σ) No:=by
 have u:=fun σ (h:σ id=some (.cells 3 [.sc (.int .i64 n)]))=>JM t.aZ .aE t.fn (.fn (.func 51) [] [.ptr id 0]) (fun f=>yY f n) σ hl
  (fun x _ =>mX.fn (C8 x n id σ h))
 have hf:=fun σ=>sD t.name w σ;unfold NW;generalize t.aZ.any (fun f=>yY f n)=b at u⊢;generalize da t.name=y at hf⊢;obtain⟨nm,fl,ex,fc,fn⟩:=t;simp only[eu]at u hf⊢;refine aa.ob func49 ?_;refine gO cZ tI tI ?_;intro q j;have d:¬id=q:=nq h j;refine gO cZ (j2 @h d) (j2 @u @hf) ?_;cases y
 ·refine gO cZ tI tI ?_;all_goals (repeat' (with_reducible apply j2))
  all_goals exact gL tI
 ·by_cases h1:fl<0
  ·refine gO cZ @h1 tI ?_;all_goals (repeat' (with_reducible apply j2))
   all_goals exact gL @h1
  ·by_cases g:31<fl
   ·refine gO cZ (j2 @h1 @g) tI ?_;all_goals (repeat' (with_reducible apply j2))
    all_goals exact gL (j2 @h1 @g)
   ·by_cases i:ex< -1
    ·refine gO cZ (j3 @h1 @g @i) tI ?_;all_goals (repeat' (with_reducible apply j2))
     all_goals exact gL (j3 @h1 @g @i)
    ·by_cases o:n≤ex
     ·refine gO cZ (j6 @h d @h1 @g @i @o) tI ?_;all_goals (repeat' (with_reducible apply j2))
      all_goals exact gL (j4 @h1 @g @i @o)
     ·by_cases v:fc.length≤4
      ·have l:(4<(fc.length:Int))=False:=by simp;omega
       refine gO cZ (j7 @h d @h1 @g @i @o @l) tI ?_;all_goals (repeat' (with_reducible apply j2))
       all_goals exact gL (j5 @h1 @g @i @o @v)
      ·have l:(4<(fc.length:Int))=True:=by simp;omega
       refine gO cZ (j7 @h d @h1 @g @i @o @l) tI ?_;all_goals (repeat' (with_reducible apply j2))
       all_goals exact gL (j5 @h1 @g @i @o @v)
def H5 (l:List TD):Bool:=decide (l.length≤32)&&l.all (fun t=>NW t l.length)
theorem mT {α:Type}(p:α→Bool) (l:List α):(l.any fun x=> !p x)= !l.all p:=by
 induction l with
 |nil=>rfl
 |cons a r d=>simp[d]
theorem H2 (g:bZ) (hl:g.ts.length≤140737488355328) (u:∀t∈g.ts,t.aZ.length≤140737488355328∧t.name.length≤140737488355328) (σ:AS):
 aa prog 18 [pD g] σ (ao (.sc (.bool (H5 g.ts))) σ) No:=by
 have j:=fun σ id (h:σ id=some (.cells 3 [.sc (.int .i64 g.ts.length)]))=>H7 g.ts .aE g.tn (.fn (.func 49) [] [.ptr id 0]) (fun t=> !NW t g.ts.length) σ hl
  (fun x q=>mX.fn (Gc x (u x q).1 (u x q).2 g.ts.length id σ h))
 simp only[mT]at j;unfold H5;generalize (g.ts.all fun t=>NW t g.ts.length)=b at j⊢;simp only[b9]at j⊢;have n:((g.ts.length:Int)≤32)=(g.ts.length≤32):=by simp;omega
 refine aa.ob func18 ?_;refine gO cZ tI tI ?_;intro id v;refine gO cZ tI tI ?_;intro w i o;have d:=aA i;by_cases l:g.ts.length≤32
 ·refine gO cZ (j3 d @n @l) @j ?_;all_goals (repeat' (with_reducible apply j2))
  all_goals exact gL tI
 ·refine gO cZ (j3 d @n @l) @j ?_;all_goals (repeat' (with_reducible apply j2))
  all_goals exact gL tI
def rP (nt:Int):Int→List Fd→Bool
 | _,[]=>true
 |last,f::r=>if da f.name=true∧last≤f.owner∧f.owner<nt∧ud f.ty nt=true then rP nt f.owner r else false
theorem ug (g:bZ) (hl:g.fs.length≤140737488355328) (o:g.ts.length≤140737488355328) (K:∀f∈g.fs,f.name.length≤140737488355328) (σ:AS):
 aa prog 19 [pD g] σ (ao (.sc (.bool (rP g.ts.length 0 g.fs&&decide (g.fs.length≤64)))) σ) No:=by
 have F:((g.fs.length:Int)≤64)=(g.fs.length≤64):=by simp;omega
 have M:=fun(f:Fd) (h:f.name.length≤140737488355328) σ=>sD f.name h σ;have H:=fun(f:Fd) σ=>Cf f.ty g.ts.length σ;simp only[b9,cr]at H⊢;refine aa.ob func19 ?_;refine gO cZ tI tI ?_;intro id G;refine gO cZ tI tI ?_;refine ae.bp (α:=(Nat)×(Int)) ((0,0)) (fun⟨i,last⟩=>g.fs.length-i) (fun⟨i,last⟩=>i≤g.fs.length∧rP g.ts.length 0 g.fs=rP g.ts.length last (g.fs.drop i)) [(1,?_),(7,?_),(8,?_)] (fun⟨i,last⟩=> [(9,.sc (.int .i64 i)),(3,.sc (.int .i64 last))]) (fun⟨i,last⟩=>σ.set id (.cells 26 (pD g).cells)) ?_ ?_ ?_ ?_;rotate_left 3
 ·exact gF tI
 ·exact gT
 ·(try dsimp only)<;>first|exact trivial|exact⟨by omega,rfl⟩|omega|(simp;done)|exact⟨by omega,by simp⟩|exact⟨by omega,by simp,rfl⟩
 intro I y;obtain⟨i,last⟩:=I;try dsimp only at y⊢
 obtain⟨O,v⟩:=y;simp only[gj];by_cases o:i<g.fs.length
 ·have q:IntKind.i64.wrap ((i:Int)+1)=((i+1:Nat):Int):=cv (by omega);rw[List.drop_eq_getElem_cons o]at v;simp only[rP]at v;have n:=M g.fs[i] (K _ (List.getElem_mem o));have u:=H g.fs[i];generalize L:g.fs[i]=f at*;refine gO cZ (j5 o @L @kD @aI @b9) tI ?_;intro J j w;have d:=aA j;cases h1:da f.name with
  |false=>
   rw[h1]at n;have l:rP g.ts.length 0 g.fs=false:=by rw[v];simp[h1]
   rw[l];refine gO cZ tI @n ?_;all_goals (repeat' (with_reducible apply j2))
   all_goals exact gL tI
  |true=>
   rw[h1]at n;by_cases D:f.owner<last
   ·have l:rP g.ts.length 0 g.fs=false:=by rw[v,if_neg (fun h=>absurd h.2.1 (by omega))]
    rw[l];refine gO cZ @D @n ?_;all_goals (repeat' (with_reducible apply j2))
    all_goals exact gL tI
   ·by_cases E:(g.ts.length:Int)≤f.owner
    ·have l:rP g.ts.length 0 g.fs=false:=by rw[v,if_neg (fun h=>absurd h.2.2.1 (by omega))]
     rw[l];refine gO cZ (j4 d @D @E @q) (j2 @n @u) ?_;all_goals (repeat' (with_reducible apply j2))
     all_goals exact gL tI
    ·cases A:ud f.ty g.ts.length with
     |false=>
      rw[A]at u;have l:rP g.ts.length 0 g.fs=false:=by rw[v];simp[A]
      rw[l];refine gO cZ (j4 d @D @E @q) (j2 @n @u) ?_;all_goals (repeat' (with_reducible apply j2))
      all_goals exact gL tI
     |true=>
      rw[A]at u;rw[if_pos ⟨h1,by omega,by omega,A⟩]at v;refine gO cZ (j4 d @D @E @q) (j2 @n @u) ?_;refine aP.mk ((i+1,f.owner)) (by(try dsimp only);omega) (gF tI) (by(try dsimp only);exact aq (by simp[j,w]) (lR _)) ?_;try dsimp only
      exact⟨o,v⟩
 ·rw[List.drop_eq_nil_of_le (by omega)]at v;rw[v];simp only[rP];refine gO cZ (j4 o @F @aI @b9) tI ?_;all_goals (repeat' (with_reducible apply j2))
  all_goals exact gL tI
end Im
end Go.Proofs.YtknalmoackcpbaaGreat
