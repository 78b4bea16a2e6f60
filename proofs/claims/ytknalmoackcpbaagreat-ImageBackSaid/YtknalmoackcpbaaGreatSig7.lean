/- Package sigs: GetSig. -/
import Derived.Test.YtknalmoackcpbaaGreatSig2
set_option maxRecDepth 100000
set_option maxHeartbeats 3200000
set_option linter.all false
namespace Go.Proofs.YtknalmoackcpbaaGreat
namespace Sg
open Go Go.AW
theorem ga (S:List Nat):aH Tryz.prog [] S:=mixed
theorem GY (b:List UInt8) (o:cL) (nl:Bool) (U:nl=true→b= []) (hl:b.length≤100000) (σ:AS):
 aa Tryz.prog 170 [.an 5 (b.map u8) o nl] σ (ao (.bQ [KR (lk (eP b)),.sc (.int .i64 (cD (eP b)))]) σ) No:=by
 refine aa.jj Tryz.func170 rfl rfl (by simp[Tryz.ntmps170]) (fun G1=> ?_);apply lg.seq;have a6:Tryz.f170.ntmps=38:=rfl;simp-implicitDefEqProofs only[a6];refine gO ga tI tI ?_;intro L b6;refine gO ga tI tI ?_;intro id3 g b5;have d:=aA g;apply lg.defer (by simp) (by decide+kernel);intro D;simp-implicitDefEqProofs only[a6];refine gO ga tI tI ?_;refine ag.of (oH b o nl U (by omega) _) ?_ (fun _ _ h=>h.elim);rintro r σ1 ⟨id,a7,rfl,rfl⟩;simp at a7;obtain⟨A,u,cd⟩:=a7;have E:=aA A;have v:=aA u;simp-implicitDefEqProofs;refine gO ga tI tI ?_;intro id5 j H G b4;have F:=aA j;have w:=aA H;have i:=aA G;have ac:=fun e σ=>cE e σ;have I:=fun e σ=>cH e σ;have ho:=fun σ h=>zR id b 0 nl σ h (by omega) hl;have hp:=fun x hx σ h=>mb id b x nl σ h hx U hl;have hm:=fun x hx σ h=>zW dB (.sc (.func (.func 191) #[] #[])) (fun σ t=>mX.func (oL t σ)) id b x nl σ h hx U hl;have am:=fun n hn x hx σ h=>Fs n hn id b x nl σ h hx U hl;simp only[jH]at ho hp am hm;cases T:eB b 0 with
 |error e=>
  have O:eP b= .error e:=by unfold eP rp;rw[T];rfl
  have J:=fun σ h=>RD.bad (ho σ h) T;refine gO ga F @J ?_;refine cw ?_;intro x;refine fO L id3 e (.sc (.bool false)) (.ai) (.sc (.int .i64 0)) (.sc (.int .i64 0)) (.sc (.int .i64 0)) (.sc (.bool false)) (.sc (.int .i64 0)) _ _ (by simp[v,i,d]) (by simp[E,w]) d ?_;simp-implicitDefEqProofs [j,d,g,u,A,pB,O,lk,cD,KR];refine⟨cq (oU (Wk.refl _) gP (Wk.refl _) (Wk.refl _) (Wk.refl _) (Wk.refl _)) (Wk.refl _),?_⟩;repeat (first|exact lR _ |refine AS.ah ?_ (by assumption))
 |ok y=>
  obtain⟨c,a1⟩:=y;have J:=fun σ h=>RD.ok (ho σ h) T;have a9:=y6 T;simp only[sL]at J;have z0:=lP (c:=c) (n:=0) (by omega);have be:=lP (c:=c) (n:=32) (by omega);by_cases V:c=0∨c=32;rotate_left
  ·have av:((c.toNat:Int)=0)=False:=z0.trans (eq_false fun e=>V (.inl e));have Z:(c.toNat=0)=False:=by simp only[eq_iff_iff,iff_false];intro h;rw[h]at av;simp at av
   have K:((c.toNat:Int)=32)=False:=be.trans (eq_false fun e=>V (.inr e));have O:eP b= .error 2:=by unfold eP rp;rw[T];simp only[V,if_false];rfl
   refine gO ga (j4 @Z @K j F) (j2 @J @ac) ?_;refine fO L id3 2 (.sc (.bool false)) (.ai) (.sc (.int .i64 0)) (.sc (.int .i64 0)) (.sc (.int .i64 0)) (.sc (.bool false)) (.sc (.int .i64 0)) _ _ (by simp[v,i,d]) (by simp[E,w]) d ?_;simp-implicitDefEqProofs [d,g,u,A,pB,O,lk,cD,KR];refine⟨cq (oU (Wk.refl _) gP (Wk.refl _) (Wk.refl _) (Wk.refl _) (Wk.refl _)) (Wk.refl _),?_⟩;repeat (first|exact lR _ |refine AS.ah ?_ (by assumption))
  have b2:∃(p q th:Bool),(c.toNat=0)=(p=true)∧((c.toNat:Int)=32)=(q=true)∧(p||q)=true∧decide (c=32)=th∧th= !p:=by
   rcases V with rfl|rfl
   ·exact⟨true,false,false,by simp,by simp,rfl,by decide,rfl⟩
   ·exact⟨false,true,true,by simp,by simp,rfl,by decide,rfl⟩
  obtain⟨p,q,th,Z,K,P,bv,rfl⟩:=b2;obtain⟨tv,af⟩:∃tv:Bool,tv= !p:=⟨_,rfl⟩;cases X:yg b a1 with
  |error e=>
   have O:eP b= .error e:=by unfold eP rp;rw[T];simp only[V,if_true];rw[X];rfl
   have M:=fun σ h=>RD.bad (hp a1 a9 σ h) X;cases p<;>cases q<;>first|(cases P;done)|skip
   all_goals
    refine gO ga (j4 @Z @K j F) (j3 @J @I @M) ?_;refine cw ?_;intro x;refine fO L id3 e (.sc (.bool false)) (.ai) (.sc (.int .i64 0)) (.sc (.int .i64 0)) (.sc (.int .i64 0)) (.sc (.bool false)) (.sc (.int .i64 0)) _ _ (by simp[v,i,d]) (by simp[E,w]) d ?_;simp-implicitDefEqProofs [j,d,g,u,A,pB,O,lk,cD,KR];refine⟨cq (oU (Wk.refl _) gP (Wk.refl _) (Wk.refl _) (Wk.refl _) (Wk.refl _)) (Wk.refl _),?_⟩;repeat (first|exact lR _ |refine AS.ah ?_ (by assumption))
  |ok y=>
   obtain⟨n,a2⟩:=y;have M:=fun σ h=>RD.ok (hp a1 a9 σ h) X;have a8:=D9 X;have ch:=(rT X).1;simp only[JG]at M;by_cases Y:n≤6;rotate_left
   ·have O:eP b= .error 4:=by unfold eP rp;rw[T];simp only[V,if_true];rw[X];simp only[Y,if_false];rfl
    cases p<;>cases q<;>first|(cases P;done)|skip
    all_goals
     refine gO ga (j5 @Z @K @Y j F) (j4 @J @I @M @ac) ?_;refine fO L id3 4 (.sc (.bool false)) (.ai) (.sc (.int .i64 0)) (.sc (.int .i64 0)) (.sc (.int .i64 0)) (.sc (.bool false)) (.sc (.int .i64 0)) _ _ (by simp[v,i,d]) (by simp[E,w]) d ?_;simp-implicitDefEqProofs [d,g,u,A,pB,O,lk,cD,KR];refine⟨cq (oU (Wk.refl _) gP (Wk.refl _) (Wk.refl _) (Wk.refl _) (Wk.refl _)) (Wk.refl _),?_⟩;repeat (first|exact lR _ |refine AS.ah ?_ (by assumption))
   obtain⟨m,rfl⟩:∃m:Nat,n=m:=⟨n.toNat,by omega⟩;cases hM:lE dB b a2 with
   |error e=>
    have O:eP b= .error e:=by unfold eP rp;rw[T];simp only[V,if_true];rw[X];simp only[Y,if_true];rw[hM];rfl
    have Q:=fun σ h=>RD.bad (hm a2 a8 σ h) hM;cases p<;>cases q<;>first|(cases P;done)|skip
    all_goals
     refine gO ga (j2 (j7 @Z @K @Y g d u v) (j4 j F G i)) (j4 @J @I @M @Q) ?_;refine cw ?_;intro x;refine fO L id3 e (.sc (.bool tv)) .ai (.sc (.int .i64 0)) (.sc (.int .i64 0)) (.sc (.int .i64 0)) (.sc (.bool false)) (.sc (.int .i64 0)) _ _ (by simp[af,v,i,d]) (by simp[E,w]) d ?_;simp-implicitDefEqProofs [j,d,g,u,A,pB,O,lk,cD,KR];refine⟨cq (oU (Wk.refl _) gP (Wk.refl _) (Wk.refl _) (Wk.refl _) (Wk.refl _)) (Wk.refl _),?_⟩;repeat (first|exact lR _ |refine AS.ah ?_ (by assumption))
   |ok y=>
    obtain⟨t,a3⟩:=y;have ap:=vG hM;have Q:=fun σ h=>RD.ok (hm a2 a8 σ h) hM;simp only[aD]at Q;cases hL:eList b m a3 with
    |error e=>
     have O:eP b= .error e:=by unfold eP rp;rw[T];simp only[V,if_true];rw[X];simp only[Y,if_true];rw[hM];simp only[Int.toNat_natCast];rw[hL];rfl
     have S:=fun σ h=>RD.bad (am m (by omega) a3 ap σ h) hL;cases p<;>cases q<;>first|(cases P;done)|skip
     all_goals
      refine gO ga (j2 (j7 @Z @K @Y g d u v) (j4 j F G i)) (j5 @J @I @M @Q @S) ?_;refine cw ?_;intro x;refine fO L id3 e (.sc (.bool tv)) .ai (.sc (.int .i64 t.kind)) (.sc (.int .i64 t.index)) (.sc (.int .i64 t.bt)) (.sc (.bool t.ref)) (.sc (.int .i64 0)) _ _ (by simp[af,v,i,d]) (by simp[E,w]) d ?_;simp-implicitDefEqProofs [j,d,g,u,A,pB,O,lk,cD,KR];refine⟨cq (oU (Wk.refl _) gP (Wk.refl _) (Wk.refl _) (Wk.refl _) (Wk.refl _)) (Wk.refl _),?_⟩;repeat (first|exact lR _ |refine AS.ah ?_ (by assumption))
    |ok y=>
     obtain⟨l,a4⟩:=y;have b3:=xi ap hL;have S:=fun σ h=>RD.ok (am m (by omega) a3 ap σ h) hL;simp only[qy]at S;have ab:rp b= .ok (⟨!p,l,t⟩,a4):=by unfold rp;rw[T];simp only[V,if_true];rw[X];simp only[Y,if_true];rw[hM];simp only[Int.toNat_natCast];rw[hL];simp only[bv]
     by_cases al:a4<b.length
     ·have O:eP b= .error 2:=by unfold eP;rw[ab];simp[qa,al]
      have he:=fun σ h=>Al id b a4 nl σ h hl al;simp only[jH]at he;cases p<;>cases q<;>first|(cases P;done)|skip
      all_goals
       refine gO ga (j2 (j7 @Z @K @Y g d A u) (j8 E v j F H w G i)) (j6 @J @I @M @Q @S @he) ?_;refine cw ?_;intro x;refine fO L id3 2 (.sc (.bool tv)) (.an 49 (l.map cr) .aE (decide (l= []))) (.sc (.int .i64 t.kind)) (.sc (.int .i64 t.index)) (.sc (.int .i64 t.bt)) (.sc (.bool t.ref)) (.sc (.int .i64 0)) _ _ (by simp[af,v,i,d]) (by simp[E,w]) d ?_;simp-implicitDefEqProofs [j,d,g,u,A,pB,O,lk,cD,KR];refine⟨cq (oU (Wk.refl _) gP (Wk.refl _) (Wk.refl _) (Wk.refl _) (Wk.refl _)) (Wk.refl _),?_⟩;repeat (first|exact lR _ |refine AS.ah ?_ (by assumption))
     ·have O:eP b= .ok ⟨!p,l,t⟩:=by unfold eP;rw[ab];simp[qa,al]
      have he:=fun σ h=>Ak id b a4 nl σ h b3 hl (by omega);simp only[jH]at he;cases p<;>cases q<;>first|(cases P;done)|skip
      all_goals
       refine gO ga (j2 (j7 @Z @K @Y g d A u) (j8 E v j F H w G i)) (j6 @J @I @M @Q @S @he) ?_;refine sx L id3 _ _ ?_;simp-implicitDefEqProofs [v,E,i,w,d,O,lk,cD,KR,qy];repeat (first|exact lR _ |refine AS.ah ?_ (by assumption))
theorem dK (S:List Nat):aH Tryz.prog [] S:=mixed
theorem Kh {P:Program}{f:FuncId}{e:TypeId}{es:List AV}{nil:Bool}{D:List AV}{σ:AS}{R E:AV→AS→Prop}(I:lB P f=true)
 (h:∀d,σ d=none→aa P f (.an e es (.tok d) nil::D) (σ.set d (.tok es.length)) R E):aa P f (.an e es .full nil::D) σ R E:=by
 refine⟨I,fun G w vals A j=> ?_⟩;have h0:=j.2 0 (by simp);simp only[List.getD_cons_zero]at h0;obtain⟨r,g,H,F⟩:=h0.fM A;refine((h G.top A.fresh).run _ w vals H ⟨by simpa using j.1,fun i l=> ?_⟩).mono fun x w' he=> ?_
 ·cases i with
  |zero=>simpa using F
  |succ k=>simpa using(j.2 (k+1) (by simpa using l)).mono g
 ·unfold kS at he⊢;split at he
  ·obtain⟨v,σ',r,u,q,o,n⟩:=he;exact⟨v,σ',r,g.trans u,q,o,n⟩
  ·obtain⟨x,y,v,σ',r,u,q,o,n⟩:=he;exact⟨x,y,v,σ',r,g.trans u,q,o,n⟩
  ·exact he.elim
theorem Bz (l:List UInt8) (nl:Bool) (g:nl=true→l= []) (hl:l.length≤1000) (t:Ty) (ht:bo t=true) (σ:AS):
 aa Tryz.prog 135 [.an 5 (l.map u8) .full nl,cr t] σ
  (la (fun d=> .an 5 ((l++eN t).map u8) (.tok d) false) (l++eN t).length σ) No:=
 Kh (by kernel_rfl) fun d h0=>by simpa using E0 l d nl g hl t ht σ h0
theorem LG (t:Ty) (ht:bo t=true) (σ:AS):
 aa Tryz.prog 135 [.ai,cr t] σ
  (la (fun d=> .an 5 ((eN t).map u8) (.tok d) false) (eN t).length σ) No:=
 aa.wk [.an 5 [] .full true,cr t] (Bz [] true (fun _ =>rfl) (by simp) t ht σ) rfl (fun i h=>by
  rcases i with _ | _ |i
  ·intro G v g;cases g;exact .jd ⟨none,rfl⟩
  ·exact Wk.refl _
  ·exact absurd h (by show ¬i+1+1<2;omega))
def lz {α:Type}(g:α→Bool) (l:List α):Int:=match l.findIdx? g with|some i=>(i:Int)|none=> -1
theorem js {α:Type}{g:α→Bool}{l:List α}{i:Nat}(h:i<l.length) (h1:∀x∈l.take i,g x=false) (d:g l[i]=true):lz g l=i:=by
 have:l.findIdx? g=some i:=by rw[List.findIdx?_eq_some_iff_getElem];refine⟨h,d,fun j n=> ?_⟩;rw[h1 _ (by rw[List.mem_take_iff_getElem];exact⟨j,by omega,rfl⟩)];simp
 simp[lz,this]
theorem jr {α:Type}{g:α→Bool}{l:List α}(h1:∀x∈l,g x=false):lz g l= -1:=by
 have:l.findIdx? g=none:=by rw[List.findIdx?_eq_none_iff];exact h1
 simp[lz,this]
theorem jt {α:Type}(g:α→Bool) (l:List α):decide (0≤lz g l)=l.any g:=by
 unfold lz;cases h:l.findIdx? g with
 |none=>rw[List.findIdx?_eq_none_iff]at h;simp;exact h
 |some i=>rw[List.findIdx?_eq_some_iff_getElem]at h;obtain⟨h1,d,_⟩:=h;simp;exact⟨_,List.getElem_mem h1,d⟩
theorem gk {α:Type}{g:α→Bool}{l:List α}{i:Nat}(h:i<l.length) (h1:∀x∈l.take i,g x=false) (j:g l[i]=false):∀x∈l.take (i+1),g x=false:=by
 intro x d;rw[List.take_succ_eq_append_getElem h]at d;rcases List.mem_append.1 d with d|d
 ·exact h1 x d
 ·simp at d;rw[d];exact j
theorem tZ (l:List Ty) (o:cL) (nl:Bool) (u:AV) (g:Ty→Bool) (σ:AS) (hl:l.length≤140737488355328) (hf:∀x∈l,mX Tryz.prog σ u [cr x] (.sc (.bool (g x)))):
 aa Tryz.prog 173 [.an 49 (l.map cr) o nl,u] σ (ao (.sc (.int .i64 (lz g l))) σ) No:=by
 refine aa.ob Tryz.func173 ?_;refine gO dK tI tI ?_;refine ae.bp (α:=(Nat)) (0) (fun i=>l.length-i) (fun i=>i≤l.length∧ ∀x∈l.take i,g x=false) [(0,?_),(1,?_),(7,?_)] (fun i=> [(8,.sc (.int .i64 i))]) (fun i=>σ) ?_ ?_ ?_ ?_;rotate_left 3
 ·exact gF tI
 ·exact gT
 ·(try dsimp only)<;>first|exact trivial|exact⟨by omega,rfl⟩|omega|(simp;done)|exact⟨by omega,by simp⟩|exact⟨by omega,by simp,rfl⟩
 intro i j;try dsimp only at j⊢
 obtain⟨v,q⟩:=j;simp only[gj];by_cases d:i<l.length
 ·have h:IntKind.i64.wrap ((i:Int)+1)=((i+1:Nat):Int):=cv (by omega);have hu:=(hf l[i] (List.getElem_mem d));simp only[aD]at hu;cases n:g l[i]with
  |true=>
   rw[n]at hu;rw[js d q n];repeat (first
    |(with_reducible first|apply ae.seq|apply ae.block|refine j2 (by first|omega|assumption|decide) ?_)
    |((first|(with_reducible first|apply ae.fork|apply ae.region|show aN _ _ _ |show aB _ _ _ _ _ _ _ _ _)|((with_reducible apply ag.id);first|apply (hu.use)));simp-implicitDefEqProofs [d,aD])
    |((with_reducible first|apply ae.ret|apply ae.skip|apply ae.exit);try simp-implicitDefEqProofs))
  |false=>
   rw[n]at hu;repeat (first
    |(with_reducible first|apply ae.seq|apply ae.block|refine j2 (by first|omega|assumption|decide) ?_)
    |((first|(with_reducible first|apply ae.fork|apply ae.region|show aN _ _ _ |show aB _ _ _ _ _ _ _ _ _)|((with_reducible apply ag.id);first|apply (hu.use)));simp-implicitDefEqProofs [d,aD,h])
    |((with_reducible first|apply ae.ret|apply ae.skip|apply ae.exit);try simp-implicitDefEqProofs))
   refine aP.mk (i+1) (by(try dsimp only);omega) (gF tI) gT ?_;try dsimp only
   exact⟨d,gk d q n⟩
 ·rw[jr (by rwa [List.take_of_length_le (by omega)]at q)];exact gE dK (j2 d @aI) tI
theorem fI (l:List Ty) (o:cL) (nl:Bool) (d:AV) (g:Ty→Bool) (σ:AS) (hl:l.length≤140737488355328) (hf:∀x∈l,mX Tryz.prog σ d [cr x] (.sc (.bool (g x)))):
 aa Tryz.prog 118 [.an 49 (l.map cr) o nl,d] σ (ao (.sc (.bool (l.any g))) σ) No:=by
 have h:=tZ l o nl d g σ hl hf;rw[←jt];refine aa.ob Tryz.func118 ?_;exact gE dK tI @h
theorem M0 (t:Ty) (σ:AS):aa Tryz.prog 195 [cr t] σ (ao (.sc (.bool (!bE t))) σ) No:=by have h:=fun σ=>qI t σ;refine aa.ob Tryz.func195 ?_;simp only[aD]at h⊢;refine gO dK tI tI ?_;intro id d;refine gO dK tI @h ?_;exact AS.ah (lR _) d
theorem AA (l:List Ty) (o:cL) (nl:Bool) (hl:l.length≤140737488355328) (σ:AS):
 aa Tryz.prog 140 [.an 49 (l.map cr) o nl] σ (ao (.sc (.bool (l.all bE))) σ) No:=by
 have h:=fun σ=>fI l o nl (.sc (.func (.func 195) #[] #[])) (fun t=> !bE t) σ hl (fun x _ =>mX.func (M0 x σ));have e:(!l.any fun t=> !bE t)=l.all bE:=by simp[List.all_eq_not_any_not]
 rw[←e];refine aa.ob Tryz.func140 ?_;exact gE dK tI @h
theorem PF (t:Ty) (ht:bo t=true) (σ:AS):aa Tryz.prog 64 [cr t] σ
 (la (fun j=> .bQ [.an 5 ((eN t).map u8) (.tok j) false,.sc (.int .i64 0)]) (eN t).length σ) No:=by
 have h:=fun σ=>qp t σ;have l:=fun σ=>LG t ht σ;rw[ht]at h;refine aa.ob Tryz.func64 ?_;simp only[aD]at h l⊢;refine gO dK tI tI ?_;intro id i;refine gO dK tI (j2 @h @l) ?_;intro j d g;refine gO dK tI tI ?_;exact bJ j g (by simp) (ah (AS.ah (lR _) i))
theorem Na (t:Ty) (ht:bo t=false) (σ:AS):aa Tryz.prog 64 [cr t] σ
 (ao (.bQ [.ai,.sc (.int .i64 17)]) σ) No:=by
 have h:=fun σ=>qp t σ;rw[ht]at h;refine aa.ob Tryz.func64 ?_;simp only[aD]at h⊢;refine gO dK tI tI ?_;intro id d;refine gO dK tI @h ?_;exact AS.ah (lR _) d
theorem qo (t:Ty) (ht:dm t=true) (σ:AS):aa Tryz.prog 62 [cr t] σ
 (la (fun j=> .bQ [.an 5 ((6::eN t).map u8) (.tok j) false,.sc (.int .i64 0)]) (6::eN t).length σ) No:=by
 have h:=fun σ=>tY t σ;have l:bo t=true:=by unfold dm bE at ht;simp at ht;exact ht.1.1
 have n:=fun σ=>Bz [6] false (by simp) (by simp) t l σ;rw[ht]at h;simp at n;refine aa.ob Tryz.func62 ?_;simp only[aD]at h n⊢;refine gO dK tI tI ?_;intro id i;refine gO dK tI (j2 @h @n) ?_;intro j d g;refine gO dK tI tI ?_;exact bJ j g (by simp) (ah (AS.ah (lR _) i))
theorem oX (t:Ty) (ht:dm t=false) (σ:AS):aa Tryz.prog 62 [cr t] σ
 (ao (.bQ [.ai,.sc (.int .i64 17)]) σ) No:=by
 have h:=fun σ=>tY t σ;rw[ht]at h;refine aa.ob Tryz.func62 ?_;simp only[aD]at h⊢;refine gO dK tI tI ?_;intro id d;refine gO dK tI @h ?_;exact AS.ah (lR _) d
end Sg
open Go Go.AW
theorem ep (S:List Nat):aH Tryz.prog [] S:=mixed
@[simp] theorem emp:(⟨#[]⟩:ByteArray)=ByteArray.empty:=rfl
def jq (i:List UInt8×Int×Int):AV:= .agg [.sc (.string ⟨i.1.toArray⟩),.sc (.int .i64 i.2.1),.sc (.int .i64 i.2.2)]
def sh (op:Int):List UInt8×Int×Int:=
 if op=62 then([98,111,120],8,0)else
 if op=63 then([117,110,98,111,120],8,0)else
 if op=64 then([117,110,98,111,120,97,110,121],8,0)else
 if op=65 then([99,97,115,116,99,108,97,115,115],8,0)else
 if op=66 then([105,115,105,110,115,116],8,0)else
 if op=67 then([108,100,102,116,110],6,0)else
 if op=68 then([110,101,119,100,101,108],8,0)else
 if op=69 then([116,104,114,111,119],0,3)else
 if op=70 then([114,101,116,104,114,111,119],0,3)else
 if op=71 then([108,101,97,118,101],5,4)else
 if op=72 then([101,110,100,102,105,110,97,108,108,121],0,5)else
 if op=73 then([101,110,100,102,105,108,116,101,114],0,5)else
 if op=74 then([105,110],0,0)else
 if op=75 then([111,117,116],0,0)else
 ([],0,0)
theorem GC (op:Int) (σ:AS):aa Tryz.prog 279 [.sc (.int .i64 op)] σ (ao (jq (sh op)) σ) No:=by
 refine aa.ob Tryz.func279 ?_;refine gO ep tI tI ?_;intro id d;have E:op=62∨op=63∨op=64∨op=65∨op=66∨op=67∨op=68∨op=69∨op=70∨op=71∨op=72∨op=73∨op=74∨op=75∨(¬op=62∧ ¬op=63∧ ¬op=64∧ ¬op=65∧ ¬op=66∧ ¬op=67∧ ¬op=68∧ ¬op=69∧ ¬op=70∧ ¬op=71∧ ¬op=72∧ ¬op=73∧ ¬op=74∧ ¬op=75):=by omega
 rcases E with rfl|rfl|rfl|rfl|rfl|rfl|rfl|rfl|rfl|rfl|rfl|rfl|rfl|rfl|⟨D,A,y,w,v,u,q,o,n,l,j,i,h,g⟩
 rotate_right
 ·refine gO ep (j2 (j7 @D @A @y @w @v @u @q) (j8 @o @n @l @j @i @h @g @jq.eq_1)) tI ?_;try simp[sh,D,A,y,w,v,u,q,o,n,l,j,i,h,g]
  all_goals (repeat (first|exact lR _ |refine aq (by simp[d]) ?_))
 all_goals
  refine gO ep tI tI ?_;try simp[sh,jq]
  all_goals (repeat (first|exact lR _ |refine aq (by simp[d]) ?_))
def sE (op:Int):List UInt8×Int×Int:=
 if op=48 then([108,100,102,108,100],7,0)else
 if op=49 then([115,116,102,108,100],7,0)else
 if op=50 then([108,100,102,108,100,97],7,0)else
 if op=51 then([108,100,115,102,108,100],7,0)else
 if op=52 then([115,116,115,102,108,100],7,0)else
 if op=53 then([108,100,115,102,108,100,97],7,0)else
 if op=54 then([108,100,111,98,106],8,0)else
 if op=55 then([115,116,111,98,106],8,0)else
 if op=56 then([105,110,105,116,111,98,106],8,0)else
 if op=57 then([110,101,119,97,114,114],8,0)else
 if op=58 then([108,100,108,101,110],0,0)else
 if op=59 then([108,100,101,108,101,109],8,0)else
 if op=60 then([115,116,101,108,101,109],8,0)else
 if op=61 then([108,100,101,108,101,109,97],8,0)else
 sh op
theorem ug (op:Int) (σ:AS):aa Tryz.prog 278 [.sc (.int .i64 op)] σ (ao (jq (sE op)) σ) No:=by
 refine aa.ob Tryz.func278 ?_;refine gO ep tI tI ?_;intro id d;have E:op=48∨op=49∨op=50∨op=51∨op=52∨op=53∨op=54∨op=55∨op=56∨op=57∨op=58∨op=59∨op=60∨op=61∨(¬op=48∧ ¬op=49∧ ¬op=50∧ ¬op=51∧ ¬op=52∧ ¬op=53∧ ¬op=54∧ ¬op=55∧ ¬op=56∧ ¬op=57∧ ¬op=58∧ ¬op=59∧ ¬op=60∧ ¬op=61):=by omega
 rcases E with rfl|rfl|rfl|rfl|rfl|rfl|rfl|rfl|rfl|rfl|rfl|rfl|rfl|rfl|⟨D,A,y,w,v,u,q,o,n,l,j,i,h,g⟩
 rotate_right
 ·refine gO ep (j2 (j7 @D @A @y @w @v @u @q) (j8 @o @n @l @j @i @h @g @jq.eq_1)) @GC ?_;try simp[sE,D,A,y,w,v,u,q,o,n,l,j,i,h,g]
  all_goals (repeat (first|exact lR _ |refine aq (by simp[d]) ?_))
 all_goals
  refine gO ep tI tI ?_;try simp[sE,jq]
  all_goals (repeat (first|exact lR _ |refine aq (by simp[d]) ?_))
def wY (op:Int):List UInt8×Int×Int:=
 if op=34 then([98,114],5,1)else
 if op=35 then([98,114,116,114,117,101],5,2)else
 if op=36 then([98,114,102,97,108,115,101],5,2)else
 if op=37 then([98,101,113],5,2)else
 if op=38 then([98,103,101],5,2)else
 if op=39 then([98,103,116],5,2)else
 if op=40 then([98,108,101],5,2)else
 if op=41 then([98,108,116],5,2)else
 if op=42 then([98,110,101],5,2)else
 if op=43 then([99,97,108,108],6,0)else
 if op=44 then([99,97,108,108,118,105,114,116],6,0)else
 if op=45 then([110,101,119,111,98,106],6,0)else
 if op=46 then([114,101,116],0,3)else
 if op=47 then([116,97,105,108],0,0)else
 sE op
theorem Jy (op:Int) (σ:AS):aa Tryz.prog 275 [.sc (.int .i64 op)] σ (ao (jq (wY op)) σ) No:=by
 refine aa.ob Tryz.func275 ?_;refine gO ep tI tI ?_;intro id d;have E:op=34∨op=35∨op=36∨op=37∨op=38∨op=39∨op=40∨op=41∨op=42∨op=43∨op=44∨op=45∨op=46∨op=47∨(¬op=34∧ ¬op=35∧ ¬op=36∧ ¬op=37∧ ¬op=38∧ ¬op=39∧ ¬op=40∧ ¬op=41∧ ¬op=42∧ ¬op=43∧ ¬op=44∧ ¬op=45∧ ¬op=46∧ ¬op=47):=by omega
 rcases E with rfl|rfl|rfl|rfl|rfl|rfl|rfl|rfl|rfl|rfl|rfl|rfl|rfl|rfl|⟨D,A,y,w,v,u,q,o,n,l,j,i,h,g⟩
 rotate_right
 ·refine gO ep (j2 (j7 @D @A @y @w @v @u @q) (j8 @o @n @l @j @i @h @g @jq.eq_1)) @ug ?_;try simp[wY,D,A,y,w,v,u,q,o,n,l,j,i,h,g]
  all_goals (repeat (first|exact lR _ |refine aq (by simp[d]) ?_))
 all_goals
  refine gO ep tI tI ?_;try simp[wY,jq]
  all_goals (repeat (first|exact lR _ |refine aq (by simp[d]) ?_))
def Bf (op:Int):List UInt8×Int×Int:=
 if op=13 then([97,100,100],0,0)else
 if op=14 then([115,117,98],0,0)else
 if op=15 then([109,117,108],0,0)else
 if op=16 then([100,105,118],0,0)else
 if op=17 then([114,101,109],0,0)else
 if op=18 then([97,110,100],0,0)else
 if op=19 then([111,114],0,0)else
 if op=20 then([120,111,114],0,0)else
 if op=21 then([115,104,108],0,0)else
 if op=22 then([115,104,114],0,0)else
 if op=23 then([110,101,103],0,0)else
 if op=24 then([110,111,116],0,0)else
 if op=25 then([97,100,100,111,118,102],0,0)else
 if op=26 then([115,117,98,111,118,102],0,0)else
 if op=27 then([109,117,108,111,118,102],0,0)else
 if op=28 then([99,111,110,118,52],0,0)else
 if op=29 then([99,111,110,118,56],0,0)else
 if op=30 then([99,111,110,118,111,118,102,52],0,0)else
 if op=31 then([99,101,113],0,0)else
 if op=32 then([99,103,116],0,0)else
 if op=33 then([99,108,116],0,0)else
 wY op
theorem Lh (op:Int) (σ:AS):aa Tryz.prog 256 [.sc (.int .i64 op)] σ (ao (jq (Bf op)) σ) No:=by
 refine aa.ob Tryz.func256 ?_;refine gO ep tI tI ?_;intro id d;have L:op=13∨op=14∨op=15∨op=16∨op=17∨op=18∨op=19∨op=20∨op=21∨op=22∨op=23∨op=24∨op=25∨op=26∨op=27∨op=28∨op=29∨op=30∨op=31∨op=32∨op=33∨(¬op=13∧ ¬op=14∧ ¬op=15∧ ¬op=16∧ ¬op=17∧ ¬op=18∧ ¬op=19∧ ¬op=20∧ ¬op=21∧ ¬op=22∧ ¬op=23∧ ¬op=24∧ ¬op=25∧ ¬op=26∧ ¬op=27∧ ¬op=28∧ ¬op=29∧ ¬op=30∧ ¬op=31∧ ¬op=32∧ ¬op=33):=by omega
 rcases L with rfl|rfl|rfl|rfl|rfl|rfl|rfl|rfl|rfl|rfl|rfl|rfl|rfl|rfl|rfl|rfl|rfl|rfl|rfl|rfl|rfl|⟨K,J,I,H,G,F,E,D,A,y,w,v,u,q,o,n,l,j,i,h,g⟩
 rotate_right
 ·refine gO ep (j2 (j7 @K @J @I @H @G @F @E) (j2 (j7 @D @A @y @w @v @u @q) (j8 @o @n @l @j @i @h @g @jq.eq_1))) @Jy ?_;try simp[Bf,K,J,I,H,G,F,E,D,A,y,w,v,u,q,o,n,l,j,i,h,g]
  all_goals (repeat (first|exact lR _ |refine aq (by simp[d]) ?_))
 all_goals
  refine gO ep tI tI ?_;try simp[Bf,jq]
  all_goals (repeat (first|exact lR _ |refine aq (by simp[d]) ?_))
def nj (op:Int):List UInt8×Int×Int:=
 if op=1 then([110,111,112],0,0)else
 if op=2 then([108,100,97,114,103],4,0)else
 if op=3 then([115,116,97,114,103],4,0)else
 if op=4 then([108,100,97,114,103,97],4,0)else
 if op=5 then([108,100,108,111,99],3,0)else
 if op=6 then([115,116,108,111,99],3,0)else
 if op=7 then([108,100,108,111,99,97],3,0)else
 if op=8 then([108,100,99,52],1,0)else
 if op=9 then([108,100,99,56],2,0)else
 if op=10 then([108,100,110,117,108,108],0,0)else
 if op=11 then([100,117,112],0,0)else
 if op=12 then([112,111,112],0,0)else
 Bf op
theorem Nu (op:Int) (σ:AS):aa Tryz.prog 218 [.sc (.int .i64 op)] σ (ao (jq (nj op)) σ) No:=by
 refine aa.ob Tryz.func218 ?_;refine gO ep tI tI ?_;intro id d;have y:op=1∨op=2∨op=3∨op=4∨op=5∨op=6∨op=7∨op=8∨op=9∨op=10∨op=11∨op=12∨(¬op=1∧ ¬op=2∧ ¬op=3∧ ¬op=4∧ ¬op=5∧ ¬op=6∧ ¬op=7∧ ¬op=8∧ ¬op=9∧ ¬op=10∧ ¬op=11∧ ¬op=12):=by omega
 rcases y with rfl|rfl|rfl|rfl|rfl|rfl|rfl|rfl|rfl|rfl|rfl|rfl|⟨h1,w,v,u,q,o,n,l,j,i,h,g⟩
 rotate_right
 ·refine gO ep (j2 (j7 @h1 @w @v @u @q @o @n) (j6 @l @j @i @h @g @jq.eq_1)) @Lh ?_;try simp[nj,h1,w,v,u,q,o,n,l,j,i,h,g]
  all_goals (repeat (first|exact lR _ |refine aq (by simp[d]) ?_))
 all_goals
  refine gO ep tI tI ?_;try simp[nj,jq]
  all_goals (repeat (first|exact lR _ |refine aq (by simp[d]) ?_))
theorem qs (S:List Nat):aH Tryz.prog [] S:=mixed
theorem zx (op:Int) (h:op<1∨75<op):nj op=([],0,0):=by
 unfold nj;repeat (rw[if_neg (by omega)])
 unfold Bf;repeat (rw[if_neg (by omega)])
 unfold wY;repeat (rw[if_neg (by omega)])
 unfold sE;repeat (rw[if_neg (by omega)])
 unfold sh;repeat (rw[if_neg (by omega)])
theorem N0:∀k:Fin 75,(nj ((k.val:Int)+1)).1≠ []:=by decide
def DE (op:Int):Int:=if op<1∨75<op then 3 else 0
theorem Li (l:List UInt8):((⟨l.toArray⟩:ByteArray)=ByteArray.empty)↔l= []:=by
 constructor
 ·intro h;have:=congrArg (fun b:ByteArray=>b.data.toList) h;simpa using this
 ·rintro rfl;rfl
theorem sT (op:Int) (σ:AS):aa Tryz.prog 176 [.sc (.int .i64 op)] σ (ao (.bQ [jq (nj op),.sc (.int .i64 (DE op))]) σ) No:=by
 refine aa.ob Tryz.func176 ?_;refine gO qs tI tI ?_;intro id g;by_cases h:op<1∨75<op
 ·have h1:=zx op h;refine gO qs (j2 @h1 @jq.eq_1) @Nu ?_;intro i ne d;have ne':=aA ne;refine gO qs (j2 @ne @ne') tI ?_;simp[DE,h];all_goals (repeat (first|exact lR _ |refine aq (by simp[g,d,ne]) ?_))
 ·have h1:(nj op).1≠ []:=by
   have:=N0 ⟨(op-1).toNat,by omega⟩;have e:(((op-1).toNat:Nat):Int)+1=op:=by omega
   change (nj ((((op-1).toNat:Nat):Int)+1)).1≠ []at this;rwa [e]at this
  have j:=Li (nj op).1;simp[h1]at j;refine gO qs @jq.eq_1 @Nu ?_;intro i ne d;have ne':=aA ne;refine gO qs (j3 @h1 @ne @ne') tI ?_;simp[DE,h];all_goals (repeat (first|exact lR _ |refine aq (by simp[g,d,ne]) ?_))
theorem CV (S:List Nat):aH Tryz.prog [] S:=mixed
theorem Ks (x b:Int) (σ:AS):aa Tryz.prog 255 [.sc (.int .i64 x),.sc (.int .i64 b)] σ (ao (.sc (.bool (decide (0≤x)&&decide (x<b)))) σ) No:=by
 refine aa.ob Tryz.func255 ?_;by_cases h:0≤x;all_goals
  exact gE CV @h tI;try simp[h]
structure db where
 op:Int
 arg:Int
 t:Ty
def aJ (x:db):AV:= .agg [.sc (.int .i64 x.op),.sc (.int .i64 x.arg),.sc (.int .i64 x.t.kind),.sc (.int .i64 x.t.index),.sc (.int .i64 x.t.bt),.sc (.bool x.t.ref)]
def xZ (t:Ty):Bool:=decide (t.kind=0)&&(decide (t.index=0)&&(decide (t.bt=0)&& !t.ref))
def rG (x:db) (o:Int):Bool:=
 if o=0 then xZ x.t&&decide (x.arg=0)else
 if o=1 then xZ x.t&&(decide (-2147483648≤x.arg)&&decide (x.arg<2147483648))else
 if o=2 then xZ x.t else
 if o=3 then xZ x.t&&(decide (0≤x.arg)&&decide (x.arg<12))else
 if o=4 then xZ x.t&&(decide (0≤x.arg)&&decide (x.arg<7))else
 if o=5 then xZ x.t&&(decide (0≤x.arg)&&decide (x.arg<160))else
 if o=6∨o=7 then xZ x.t&&(decide (0≤x.arg)&&decide (x.arg<64))else
 decide (x.arg=0)&&dm x.t
theorem qM (x:db) (o:Int) (σ:AS):aa Tryz.prog 217 [aJ x,.sc (.int .i64 o)] σ (ao (.sc (.bool (rG x o))) σ) No:=by
 refine aa.ob Tryz.func217 ?_;have i:=fun σ=>qp x.t σ;obtain⟨op,arg,k,g,d,r⟩:=x;simp only[cr]at i;simp only[aJ];have h:kg Tryz.prog 8 49 (.agg [.sc (.int .i64 k),.sc (.int .i64 g),.sc (.int .i64 d),.sc (.bool r)]) (.agg [.sc (.int .i64 0),.sc (.int .i64 0),.sc (.int .i64 0),.sc (.bool false)])=some (xZ ⟨k,g,d,r⟩):=by simp[xZ]
 refine gO CV tI tI ?_;intro id j;cases n:xZ ⟨k,g,d,r⟩;all_goals
  rw[n]at h
  repeat' (first
   |(with_reducible first|apply ae.seq|apply ae.block|refine j2 (by first|omega|assumption|decide) ?_)
   |((first|(with_reducible first|apply ae.fork|apply ae.region|show aN _ _ _ |show aB _ _ _ _ _ _ _ _ _)|((with_reducible apply ag.id);first|apply ag.aC (Ks _ _ _)|apply ag.aC (i _)));simp-implicitDefEqProofs [-G8,h])
   |trivial
   |(with_reducible apply j2)
   |((with_reducible first|apply ae.ret|apply ae.skip|apply ae.exit);try simp-implicitDefEqProofs [-G8])
   |((with_reducible first|apply aN.split|apply aB.split|apply kK.split)<;>(intro l;(try simp-implicitDefEqProofs only[l]);(try simp at l))<;>try simp-implicitDefEqProofs [-G8]))
  all_goals clear i h
  all_goals first
   |exact aq j (lR _)
   |(refine KX ?_;simp_all [rG,dm,bE];done)
   |(refine KX ?_;rw[Bool.eq_iff_iff];simp[rG, *];omega)
theorem CU (S:List Nat):aH Tryz.prog [] S:=mixed
def uO (x:db):Int:=if x.op<1∨75<x.op then 3 else if rG x (nj x.op).2.1 then 0 else 17
theorem B3 (x:db) (σ:AS):aa Tryz.prog 175 [aJ x] σ (ao (.sc (.int .i64 (uO x))) σ) No:=by
 refine aa.ob Tryz.func175 ?_;have g:=fun σ=>sT x.op σ;have hf:=fun o σ=>qM x o σ;have he:uO x=if x.op<1∨75<x.op then 3 else if rG x (nj x.op).2.1 then 0 else 17:=rfl;generalize uO x=u at he⊢;obtain⟨op,arg,k,q,d,r⟩:=x;simp only[aJ,jq,DE]at g hf he⊢;by_cases h:op<1∨75<op;all_goals
  simp only[h,if_true,if_false]at g he;refine gO CU tI tI ?_;intro id n;refine gO CU tI @g ?_;intro l ne i;have ne':=aA ne
  repeat' (first
   |(with_reducible first|apply ae.seq|apply ae.block|refine j2 (by first|omega|assumption|decide) ?_)
   |((first|(with_reducible first|apply ae.fork|apply ae.region|show aN _ _ _ |show aB _ _ _ _ _ _ _ _ _)|((with_reducible apply ag.id);first|apply ag.aC (g _)|apply ag.aC (hf _ _)));simp-implicitDefEqProofs [ne'])
   |trivial
   |(with_reducible apply j2)
   |((with_reducible first|apply ae.ret|apply ae.skip|apply ae.exit);try simp-implicitDefEqProofs)
   |((with_reducible first|apply aN.split|apply aB.split|apply kK.split)<;>(intro j;(try simp-implicitDefEqProofs only[j]);(try simp at j))<;>try simp-implicitDefEqProofs [ne,ne']))
  all_goals clear g hf
  all_goals (repeat' (with_reducible apply j2))
  all_goals exact gL tI
theorem I6:∀k:Fin 75,0≤(nj ((k.val:Int)+1)).2.1∧(nj ((k.val:Int)+1)).2.1≤8:=by decide+kernel
theorem fA (S:List Nat):aH Tryz.prog [] S:=mixed
def vh (c:UInt8):Bool:=decide (33≤c.toNat)&&decide (c.toNat≤126)
def da (l:List UInt8):Bool:=decide (0<l.length)&&(decide (l.length≤24)&&l.all vh)
def WX (l:List UInt8) (σ:AS) (m:Nat) (fr:Fr) (σ':AS):Prop:=
 ∃i:Nat,m=l.length-i∧i≤l.length∧l.all vh=(l.drop i).all vh∧σ'=σ∧fr=jJ [(0,.sc (.string ⟨l.toArray⟩)),(12,.sc (.int .i64 l.length)),(13,.sc (.int .i64 i))]
theorem sD (l:List UInt8) (hl:l.length≤140737488355328) (σ:AS):aa Tryz.prog 52 [.sc (.string ⟨l.toArray⟩)] σ (ao (.sc (.bool (da l))) σ) No:=by
 refine aa.ob Tryz.func52 ?_;by_cases h0:l= []
 ·subst h0;refine gO fA tI tI ?_;simp[da]
 ·have y:0<l.length:=List.length_pos_iff.2 h0;by_cases v:l.length≤24
  ·have j:(24<(l.length:Int))=False:=by simp;omega
   have w:da l=l.all vh:=by simp[da,y,v]
   rw[w];refine gO fA (j2 @h0 @j) tI ?_;refine ae.dx (WX l σ) (k0:=l.length) ⟨0,by omega,by omega,rfl,rfl,rfl⟩ (aS.mk (by simp)) (lR _) ?_;rintro m fr σ' ⟨i,hm,D,o,rfl,rfl⟩;by_cases g:i<l.length
   ·obtain⟨c,A,hd,_,_⟩:=iF l g;obtain⟨_,h⟩:=List.getElem?_eq_some_iff.1 A;have u:((i:Int)<l.length)=True:=by simp;omega
    rw[hd,List.all_cons]at o;by_cases F:c.toNat<33
    ·have q:vh c=false:=by simp[vh];omega
     have d:((c.toNat:Int)<33)=True:=by simp;omega
     refine gO fA (j4 u g @h @d) tI ?_;simp[o,q]
    ·by_cases E:126<c.toNat
     ·have q:vh c=false:=by simp[vh];omega
      have d:((c.toNat:Int)<33)=False:=by simp;omega
      have n:(126<(c.toNat:Int))=True:=by simp;omega
      refine gO fA (j5 u g @h @d @n) tI ?_;simp[o,q]
     ·have q:vh c=true:=by simp[vh];omega
      have d:((c.toNat:Int)<33)=False:=by simp;omega
      have n:(126<(c.toNat:Int))=False:=by simp;omega
      refine gO fA (j5 u g @h @d @n) tI ?_;refine⟨m-1,_,_,by omega,aS.mk ?_,lR _,i+1,by omega,by omega,by rw[o,q,Bool.true_and],rfl,rfl⟩;simp[g8 (show i<4000000000000000000 by omega)]
   ·have u:((i:Int)<l.length)=False:=by simp;omega
    have:l.drop i= []:=List.drop_eq_nil_of_le (by omega);rw[this]at o;refine gO fA u tI ?_;simp[o]
  ·have j:(24<(l.length:Int))=True:=by simp;omega
   have w:da l=false:=by simp[da,v]
   rw[w];exact gE fA (j2 @h0 @j) tI
def rN (c:UInt8):List UInt8→Option Nat
 |[]=>none
 |x::r=>if x=c then some 0 else(rN c r).map (· +1)
def DZ (l:List UInt8):Int:=match rN 0 l with|some i=>i|none=> -1
def WN (l:List UInt8) (nl:Bool) (o:cL) (σ:AS) (m:Nat) (fr:Fr) (σ':AS):Prop:=
 ∃i:Nat,m=l.length-i∧i≤l.length∧rN 0 l=(rN 0 (l.drop i)).map (· +i)∧σ'=σ∧
  fr=jJ [(0,.an 5 (l.map u8) o nl),(1,.sc (.int .u8 0)),(7,.sc (.int .i64 l.length)),(8,.sc (.int .i64 i))]
theorem gu (l:List UInt8) (nl:Bool) (o:cL) (hl:l.length≤140737488355328) (σ:AS):aa Tryz.prog 248 [.an 5 (l.map u8) o nl,.sc (.int .u8 0)] σ (ao (.sc (.int .i64 (DZ l))) σ) No:=by
 refine aa.ob Tryz.func248 ?_;refine gO fA tI tI ?_;refine ae.dx (WN l nl o σ) (k0:=l.length) ⟨0,by omega,by omega,by simp,rfl,rfl⟩ (aS.mk (by simp)) (lR _) ?_;rintro m fr σ' ⟨i,hm,v,d,rfl,rfl⟩;by_cases g:i<l.length
 ·obtain⟨c,q,hd,_,_⟩:=iF l g;obtain⟨_,j⟩:=List.getElem?_eq_some_iff.1 q;have n:((i:Int)<l.length)=True:=by simp;omega
  rw[hd]at d;simp only[rN]at d;by_cases c0:c=0
  ·subst c0;simp at d;refine gO fA (j3 n g @j) tI ?_;simp[DZ,d]
  ·have u:((0:Int)=(c.toNat:Int))=False:=by simp;intro h;apply c0;apply UInt8.toNat_inj.1;simp;omega
   simp only[c0,if_false]at d;refine gO fA (j4 n g @j @u) tI ?_;refine⟨m-1,_,_,by omega,aS.mk ?_,lR _,i+1,by omega,by omega,?_,rfl,rfl⟩
   ·simp[g8 (show i<4000000000000000000 by omega)]
   ·rw[d,Option.map_map];congr 1;funext x;simp;omega
 ·have n:((i:Int)<l.length)=False:=by simp;omega
  have:l.drop i= []:=List.drop_eq_nil_of_le (by omega);rw[this]at d;refine gO fA n tI ?_;simp[DZ,d,rN]
namespace Rg
open Go Go.AW
theorem jF (S:List Nat):aH Tryz.prog [] S:=mixed
structure Cl where
 k:Int
 tf:Int
 tt:Int
 hf:Int
 ht:Int
 fl:Int
 a:Int
 b:Int
 c:Int
 r:Bool
def ic (c:Cl):AV:= .agg [aV c.k,aV c.tf,aV c.tt,aV c.hf,aV c.ht,aV c.fl,aV c.a,aV c.b,aV c.c,.sc (.bool c.r)]
structure Sn where
 f:Int
 t:Int
deriving DecidableEq
def Iq (s:Sn):AV:= .agg [.sc (.int .i64 s.f),.sc (.int .i64 s.t)]
structure Pt where
 k:Int
 p:Int
 s:Sn
def kU (x:Pt):AV:= .agg [.sc (.int .i64 x.k),.sc (.int .i64 x.p),.sc (.int .i64 x.s.f),.sc (.int .i64 x.s.t)]
def pP (s t:Sn):Bool:=decide (s.f<t.t)&&decide (t.f<s.t)
def qw (s t:Sn):Bool:= !decide (s=t)&&(decide (t.f≤s.f)&&decide (s.t≤t.t))
def ly (s:Sn) (n:Int):Bool:=decide (0≤s.f)&&(decide (s.f<s.t)&&decide (s.t≤n))
theorem Jj (s t:Sn) (σ:AS):aa Tryz.prog 259 [Iq s,Iq t] σ (ao (.sc (.bool (pP s t))) σ) No:=by
 refine aa.ob Tryz.func259 ?_;simp only[Iq,pP];refine gO jF tI tI ?_;intro id j;refine gO jF tI tI ?_;intro l g h;have d:=aA g
 repeat' (first
  |(with_reducible first|apply ae.seq|apply ae.block|refine j2 (by first|omega|assumption|decide) ?_)
  |((first|(with_reducible first|apply ae.fork|apply ae.region|show aN _ _ _ |show aB _ _ _ _ _ _ _ _ _));simp-implicitDefEqProofs [d])
  |trivial
  |(with_reducible apply j2)
  |((with_reducible first|apply ae.ret|apply ae.skip|apply ae.exit);try simp-implicitDefEqProofs)
  |((with_reducible first|apply aN.split|apply aB.split|apply kK.split)<;>(intro i;(try simp-implicitDefEqProofs only[i]);(try simp at i))<;>try simp-implicitDefEqProofs [d]))
 all_goals (repeat' (with_reducible apply j2))
 all_goals exact gL tI
theorem Vx:Program.stoodInHeld Tryz.prog 295=false:=by kernel_rfl
@[simp] theorem VR:Program.eqGuardType Tryz.prog Tryz.prog.depth 295=false:=by kernel_rfl
@[simp] theorem VP (a b g d:Int):kg Tryz.prog 8 295 (.agg [.sc (.int .i64 a),.sc (.int .i64 b)]) (.agg [.sc (.int .i64 g),.sc (.int .i64 d)])=some (decide (a=g)&&decide (b=d)):=by simp[kg,pY,Tryz.underlying295,Tryz.underlying3]
theorem Vy:Program.stoodInHeld Tryz.prog 300=false:=by kernel_rfl
@[simp] theorem VS:Program.eqGuardType Tryz.prog Tryz.prog.depth 300=false:=by kernel_rfl
@[simp] theorem VQ (a b g d:Int):kg Tryz.prog 8 300 (.agg [.sc (.int .i64 a),.sc (.int .i64 b)]) (.agg [.sc (.int .i64 g),.sc (.int .i64 d)])=some (decide (a=g)&&decide (b=d)):=by simp[kg,pY,Tryz.underlying300,Tryz.underlying3]
theorem F9 (s t:Sn) (σ:AS):aa Tryz.prog 225 [Iq s,Iq t] σ (ao (.sc (.bool (qw s t))) σ) No:=by
 obtain⟨a,b⟩:=s;obtain⟨c,d⟩:=t;refine aa.ob Tryz.func225 ?_;simp only[Iq,qw];refine gO jF tI tI ?_;intro id l;refine gO jF tI tI ?_;intro n h i;have g:=aA h
 repeat' (first
  |(with_reducible first|apply ae.seq|apply ae.block|refine j2 (by first|omega|assumption|decide) ?_)
  |((first|(with_reducible first|apply ae.fork|apply ae.region|show aN _ _ _ |show aB _ _ _ _ _ _ _ _ _));simp-implicitDefEqProofs [g])
  |trivial
  |(with_reducible apply j2)
  |((with_reducible first|apply ae.ret|apply ae.skip|apply ae.exit);try simp-implicitDefEqProofs)
  |((with_reducible first|apply aN.split|apply aB.split|apply kK.split)<;>(intro j;(try simp-implicitDefEqProofs only[j]);(try simp at j))<;>try simp-implicitDefEqProofs [g]))
 all_goals (repeat' (with_reducible apply j2))
 all_goals exact gL tI
theorem yP (s:Sn) (n:Int) (σ:AS):aa Tryz.prog 219 [Iq s,.sc (.int .i64 n)] σ (ao (.sc (.bool (ly s n))) σ) No:=by
 refine aa.ob Tryz.func219 ?_;simp only[Iq,ly];refine gO jF tI tI ?_;intro id g
 repeat' (first
  |(with_reducible first|apply ae.seq|apply ae.block|refine j2 (by first|omega|assumption|decide) ?_)
  |((first|(with_reducible first|apply ae.fork|apply ae.region));simp-implicitDefEqProofs)
  |trivial
  |(with_reducible apply j2)
  |((with_reducible first|apply ae.ret|apply ae.skip|apply ae.exit);try simp-implicitDefEqProofs)
  |((with_reducible first|apply aN.split|apply aB.split|apply kK.split)<;>(intro d;(try simp-implicitDefEqProofs only[d]);(try simp at d))<;>try simp-implicitDefEqProofs))
 all_goals (repeat' (with_reducible apply j2))
 all_goals exact gL tI
def cp (k:Int) (c:Cl):List Pt:= [⟨k,1,⟨c.tf,c.tt⟩⟩,⟨k,2,⟨c.hf,c.ht⟩⟩]++(if c.k=2 then [⟨k,3,⟨c.fl,c.hf⟩⟩]else [])
def LN (l:List Pt):AV:= .an 302 (l.map kU) .aE false
theorem wF (k:Int) (c:Cl) (σ:AS):aa Tryz.prog 221 [.sc (.int .i64 k),ic c] σ (ao (LN (cp k c)) σ) No:=by
 refine aa.ob Tryz.func221 ?_;simp only[ic,LN,cp,aG];refine gO jF tI tI ?_;intro id i;by_cases h:c.k=2
 ·refine gO jF @h tI ?_;intro j d g;refine gO jF tI tI ?_;simp[kU];all_goals (repeat' (with_reducible apply j2))
  all_goals exact gL tI
 ·refine gO jF @h tI ?_;simp[kU];all_goals (repeat' (with_reducible apply j2))
  all_goals exact gL tI
theorem xJ (S:List Nat):aH Tryz.prog [] S:=mixed
def lz {α:Type}(g:α→Bool) (l:List α):Int:=match l.findIdx? g with|some i=>(i:Int)|none=> -1
theorem js {α:Type}{g:α→Bool}{l:List α}{i:Nat}(h:i<l.length) (h1:∀x∈l.take i,g x=false) (d:g l[i]=true):lz g l=i:=by
 have:l.findIdx? g=some i:=by rw[List.findIdx?_eq_some_iff_getElem];refine⟨h,d,fun j n=> ?_⟩;rw[h1 _ (by rw[List.mem_take_iff_getElem];exact⟨j,by omega,rfl⟩)];simp
 simp[lz,this]
theorem jr {α:Type}{g:α→Bool}{l:List α}(h1:∀x∈l,g x=false):lz g l= -1:=by
 have:l.findIdx? g=none:=by rw[List.findIdx?_eq_none_iff];exact h1
 simp[lz,this]
theorem jt {α:Type}(g:α→Bool) (l:List α):decide (0≤lz g l)=l.any g:=by
 unfold lz;cases h:l.findIdx? g with
 |none=>rw[List.findIdx?_eq_none_iff]at h;simp;exact h
 |some i=>rw[List.findIdx?_eq_some_iff_getElem]at h;obtain⟨h1,d,_⟩:=h;simp;exact⟨_,List.getElem_mem h1,d⟩
theorem gk {α:Type}{g:α→Bool}{l:List α}{i:Nat}(h:i<l.length) (h1:∀x∈l.take i,g x=false) (j:g l[i]=false):∀x∈l.take (i+1),g x=false:=by
 intro x d;rw[List.take_succ_eq_append_getElem h]at d;rcases List.mem_append.1 d with d|d
 ·exact h1 x d
 ·simp at d;rw[d];exact j
theorem gu (l:List Pt) (o:cL) (nl:Bool) (u:AV) (g:Pt→Bool) (σ:AS) (hl:l.length≤140737488355328) (hf:∀x∈l,mX Tryz.prog σ u [kU x] (.sc (.bool (g x)))):
 aa Tryz.prog 260 [.an 302 (l.map kU) o nl,u] σ (ao (.sc (.int .i64 (lz g l))) σ) No:=by
 refine aa.ob Tryz.func260 ?_;refine gO xJ tI tI ?_;refine ae.bp (α:=(Nat)) (0) (fun i=>l.length-i) (fun i=>i≤l.length∧ ∀x∈l.take i,g x=false) [(0,?_),(1,?_),(7,?_)] (fun i=> [(8,.sc (.int .i64 i))]) (fun i=>σ) ?_ ?_ ?_ ?_;rotate_left 3
 ·exact gF tI
 ·exact gT
 ·(try dsimp only)<;>first|exact trivial|exact⟨by omega,rfl⟩|omega|(simp;done)|exact⟨by omega,by simp⟩|exact⟨by omega,by simp,rfl⟩
 intro i j;try dsimp only at j⊢
 obtain⟨v,q⟩:=j;simp only[gj];by_cases d:i<l.length
 ·have h:IntKind.i64.wrap ((i:Int)+1)=((i+1:Nat):Int):=cv (by omega);have hu:=(hf l[i] (List.getElem_mem d));simp only[kU]at hu;cases n:g l[i]with
  |true=>
   rw[n]at hu;rw[js d q n];repeat (first
    |(with_reducible first|apply ae.seq|apply ae.block|refine j2 (by first|omega|assumption|decide) ?_)
    |((first|(with_reducible first|apply ae.fork|apply ae.region|show aN _ _ _ |show aB _ _ _ _ _ _ _ _ _)|((with_reducible apply ag.id);first|apply (hu.use)));simp-implicitDefEqProofs [d,kU])
    |((with_reducible first|apply ae.ret|apply ae.skip|apply ae.exit);try simp-implicitDefEqProofs))
  |false=>
   rw[n]at hu;repeat (first
    |(with_reducible first|apply ae.seq|apply ae.block|refine j2 (by first|omega|assumption|decide) ?_)
    |((first|(with_reducible first|apply ae.fork|apply ae.region|show aN _ _ _ |show aB _ _ _ _ _ _ _ _ _)|((with_reducible apply ag.id);first|apply (hu.use)));simp-implicitDefEqProofs [d,kU,h])
    |((with_reducible first|apply ae.ret|apply ae.skip|apply ae.exit);try simp-implicitDefEqProofs))
   refine aP.mk (i+1) (by(try dsimp only);omega) (gF tI) gT ?_;try dsimp only
   exact⟨d,gk d q n⟩
 ·rw[jr (by rwa [List.take_of_length_le (by omega)]at q)];exact gE xJ (j2 d @aI) tI
theorem fI (l:List Pt) (o:cL) (nl:Bool) (d:AV) (g:Pt→Bool) (σ:AS) (hl:l.length≤140737488355328) (hf:∀x∈l,mX Tryz.prog σ d [kU x] (.sc (.bool (g x)))):
 aa Tryz.prog 223 [.an 302 (l.map kU) o nl,d] σ (ao (.sc (.bool (l.any g))) σ) No:=by
 have h:=gu l o nl d g σ hl hf;rw[←jt];refine aa.ob Tryz.func223 ?_;exact gE xJ tI @h
abbrev pK:b7:=(.read 0 (.pure 1 (.read 2 (.pure 3 (.alt 4 .done .none)))))
theorem dg (S:List Nat):aH Tryz.prog [] S:=mixed
theorem Ez (S:List Nat):aH Tryz.prog [(5,pK)] S:=mixed
def Mq (f:Nat):AV:= .sc (.func (.func f) #[] #[])
theorem Ho (a b:Pt) (f l j:Nat) (may:Pt→Pt→Bool) (hm:∀σ x y,aa Tryz.prog f [kU x,kU y] σ (ao (.sc (.bool (may x y))) σ) No) (σ:AS)
 (h1:σ l=some (.cells 302 (kU a).cells)) (q:σ j=some (.cells 303 [Mq f])):
 aa Tryz.prog 258 [kU b,.ptr l 0,.ptr j 0] σ (ao (.sc (.bool (pP a.s b.s&& !may a b))) σ) No:=by
 have h:=fun σ=>Jj a.s b.s σ;have n:=fun σ=>hm σ a b;simp only[kU,Mq,Iq,aQ]at h1 q h n⊢;refine aa.ob Tryz.func258 ?_;refine gO dg tI tI ?_;intro id i;have d:¬l=id:=nq h1 i;have o:=aA d;have g:¬j=id:=nq q i;cases u:pP a.s b.s with
 |true=>
  rw[u]at h;refine gO dg (j4 d @h1 g @q) (j2 @h @n) ?_;all_goals (repeat' (with_reducible apply j2))
  all_goals exact gL tI
 |false=>
  rw[u]at h;refine gO dg (j4 d @h1 g @q) (j2 @h @n) ?_;all_goals (repeat' (with_reducible apply j2))
  all_goals exact gL tI
theorem Hp (a:Pt) (m:List Pt) (o:cL) (nl:Bool) (hl:m.length≤140737488355328) (f j h:Nat) (may:Pt→Pt→Bool) (hm:∀σ x y,aa Tryz.prog f [kU x,kU y] σ (ao (.sc (.bool (may x y))) σ) No) (σ:AS)
 (h1:σ j=some (.cells 297 [.an 302 (m.map kU) o nl])) (n:σ h=some (.cells 303 [Mq f])):
 aa Tryz.prog 257 [kU a,.ptr j 0,.ptr h 0] σ (ao (.sc (.bool (m.any fun b=>pP a.s b.s&& !may a b))) σ) No:=by
 have q:=fun id (u:σ id=none) (l:¬h=id)=>fI m o nl (.fn (.func 258) [] [.ptr id 0,.ptr h 0]) (fun b=>pP a.s b.s&& !may a b) (σ.set id (.cells 302 (kU a).cells)) hl
  (fun x _ =>mX.fn (Ho a x f id h may hm _ (by simp) (by simp[l,n])))
 simp only[kU,Mq,aQ]at h1 n q⊢;refine aa.ob Tryz.func257 ?_;refine gO dg tI tI ?_;intro id i;have g:¬j=id:=nq h1 i;have d:¬h=id:=nq n i;refine gO dg (j2 g @h1) (q id i d) ?_;all_goals (repeat' (with_reducible apply j2))
 all_goals exact gL tI
def rS (l m:List Pt) (may:Pt→Pt→Bool):Bool:=l.any fun a=>m.any fun b=>pP a.s b.s&& !may a b
theorem xl (l m:List Pt) (u n:cL) (n1 n2:Bool) (hl:l.length≤140737488355328) (o:m.length≤140737488355328) (f:Nat) (may:Pt→Pt→Bool) (hm:∀σ x y,aa Tryz.prog f [kU x,kU y] σ (ao (.sc (.bool (may x y))) σ) No) (σ:AS):
 aa Tryz.prog 220 [.an 302 (l.map kU) u n1,.an 302 (m.map kU) n n2,Mq f] σ (ao (.sc (.bool (rS l m may))) σ) No:=by
 have v:=fun id h (q:¬id=h)=>fI l u n1 (.fn (.func 257) [] [.ptr id 0,.ptr h 0]) (fun a=>m.any fun b=>pP a.s b.s&& !may a b)
  ((σ.set id (.cells 297 [.an 302 (m.map kU) n n2])).set h (.cells 303 [Mq f])) hl
  (fun x _ =>mX.fn (Hp x m n n2 o f id h may hm _ (by simp[q]) (by simp)))
 simp only[Mq]at v⊢;refine aa.ob Tryz.func220 ?_;refine gO dg tI tI ?_;intro id j;refine gO dg tI tI ?_;intro h d i;have g:=aA d;refine gO dg tI (v id h g) ?_;refine⟨Wk.refl _,aq ?_ (aq j (lR _))⟩;simp[i,d]
def Bl (a b:Pt):Bool:=decide (a.k=b.k)&&decide (a.p=b.p)
theorem IB (σ:AS) (a b:Pt):aa Tryz.prog 222 [kU a,kU b] σ (ao (.sc (.bool (Bl a b))) σ) No:=by
 refine aa.ob Tryz.func222 ?_;simp only[kU,Bl];refine gO dg tI tI ?_;intro id i;refine gO dg tI tI ?_;intro j g h;have d:=aA g;refine gO dg d tI ?_;all_goals (repeat' (with_reducible apply j2))
 all_goals exact gL tI
theorem Jd (σ:AS) (a b:Pt):aa Tryz.prog 228 [kU a,kU b] σ (ao (.sc (.bool false)) σ) No:=by
 refine aa.ob Tryz.func228 ?_;simp only[kU];refine gO dg tI tI ?_;intro id h;refine gO dg tI tI ?_;intro i d g;refine gO dg tI tI ?_;all_goals (repeat' (with_reducible apply j2))
 all_goals exact gL tI
theorem H4 (σ:AS) (a b:Pt):aa Tryz.prog 227 [kU a,kU b] σ (ao (.sc (.bool (decide (a.p=1)&&decide (b.p=1)))) σ) No:=by
 refine aa.ob Tryz.func227 ?_;simp only[kU];refine gO dg tI tI ?_;intro id j;refine gO dg tI tI ?_;intro l g h;have d:=aA g
 repeat' (first
  |(with_reducible first|apply ae.seq|apply ae.block|refine j2 (by first|omega|assumption|decide) ?_)
  |((first|(with_reducible first|apply ae.fork|apply ae.region|show aN _ _ _ |show aB _ _ _ _ _ _ _ _ _));simp-implicitDefEqProofs [d])
  |trivial
  |(with_reducible apply j2)
  |((with_reducible first|apply ae.ret|apply ae.skip|apply ae.exit);try simp-implicitDefEqProofs)
  |((with_reducible first|apply aN.split|apply aB.split|apply kK.split)<;>(intro i;(try simp-implicitDefEqProofs only[i]);(try simp at i))<;>try simp-implicitDefEqProofs))
 all_goals (repeat' (with_reducible apply j2))
 all_goals exact gL tI
theorem JV (x y:Pt) (id:Nat) (σ:AS) (h1:σ id=some (.cells 302 (kU x).cells)):
 aa Tryz.prog 224 [kU y,.ptr id 0] σ (ao (.sc (.bool (!qw y.s x.s))) σ) No:=by
 have hw:=fun σ=>F9 y.s x.s σ;simp only[kU,Iq,aQ]at h1 hw⊢;refine aa.ob Tryz.func224 ?_;refine gO dg tI tI ?_;intro h g;have d:¬id=h:=nq h1 g;refine gO dg (j2 d @h1) @hw ?_;all_goals (repeat' (with_reducible apply j2))
 all_goals exact gL tI
theorem JU (x y:Pt) (id:Nat) (σ:AS) (h1:σ id=some (.cells 302 (kU x).cells)):
 aa Tryz.prog 226 [kU y,.ptr id 0] σ (ao (.sc (.bool (!decide (y.p=1)&&decide (y.s.f=x.s.f)))) σ) No:=by
 simp only[kU,aQ]at h1⊢;refine aa.ob Tryz.func226 ?_;refine gO dg tI tI ?_;intro h g;have d:¬id=h:=nq h1 g
 repeat' (first
  |(with_reducible first|apply ae.seq|apply ae.block|refine j2 (by first|omega|assumption|decide) ?_)
  |((first|(with_reducible first|apply ae.fork|apply ae.region|show aN _ _ _ |show aB _ _ _ _ _ _ _ _ _));simp-implicitDefEqProofs)
  |trivial
  |(with_reducible apply j2)
  |((with_reducible first|apply ae.ret|apply ae.skip|apply ae.exit);try simp-implicitDefEqProofs)
  |((with_reducible first|apply aN.split|apply aB.split|apply kK.split)<;>(intro i;(try simp-implicitDefEqProofs only[i]);(try simp at i))<;>try simp-implicitDefEqProofs [d,h1]))
 all_goals (repeat' (with_reducible apply j2))
 all_goals exact gL tI
def cG (n:Int) (c:Cl):Int:=
 if (decide (c.k<1)||(decide (4<c.k)||(!ly ⟨c.tf,c.tt⟩ n|| !ly ⟨c.hf,c.ht⟩ n)))=true then 3 else
 if ((decide (c.k=2)&&(decide (c.fl<0)||decide (c.hf≤c.fl)))||(!decide (c.k=2)&& !decide (c.fl= -1)))=true then 3 else
 if rS (cp 0 c) (cp 0 c) Bl=true then 12 else 0
theorem KD (n:Int) (c:Cl) (σ:AS):aa Tryz.prog 178 [.sc (.int .i64 n),ic c] σ (ao (.sc (.int .i64 (cG n c))) σ) No:=by
 have h1:=fun σ=>yP ⟨c.tf,c.tt⟩ n σ;have i:=fun σ=>yP ⟨c.hf,c.ht⟩ n σ;have h:=fun σ=>wF 0 c σ;have g:(cp 0 c).length≤140737488355328:=by simp[cp];split<;>simp
 have d:=fun σ=>xl (cp 0 c) (cp 0 c) .aE .aE false false g g 222 Bl IB σ;simp only[ic,Iq,aG,LN,Mq,cG]at h1 i h d⊢;generalize ly ⟨c.tf,c.tt⟩ n=u at*;generalize ly ⟨c.hf,c.ht⟩ n=q at*;generalize rS (cp 0 c) (cp 0 c) Bl=o at*;generalize (cp 0 c).map kU=L at*;generalize c.k=k at*;generalize c.fl=fl at*;refine aa.ob Tryz.func178 ?_;refine gO Ez tI tI ?_;intro id l;cases u<;>cases q<;>cases o;all_goals
  repeat' (first
   |(with_reducible first|apply ae.seq|apply ae.block|refine j2 (by first|omega|assumption|decide) ?_)
   |((first|(with_reducible first|apply ae.fork|apply ae.region)|((with_reducible apply ae.aR (id:=5) (t:=pK));(exact mixed);kernel_rfl;kernel_rfl;(repeat (with_reducible first|apply ak.then|apply ak.block|apply ak.body|apply ak.no)))|((with_reducible apply ag.id);first|apply ag.aC (h1 _)|apply ag.aC (i _)|apply ag.aC (h _)|apply ag.aC (d _))|((with_reducible apply aF.id);first|apply aF.aC (fun _ =>h1 _)|apply aF.aC (fun _ =>i _)|apply aF.aC (fun _ =>h _)|apply aF.aC (fun _ =>d _)));simp-implicitDefEqProofs)
   |trivial
   |(with_reducible apply j2)
   |((with_reducible first|apply ae.ret|apply ae.skip|apply ae.exit);try simp-implicitDefEqProofs)
   |((with_reducible first|apply aN.split|apply aB.split|apply kK.split)<;>(intro j;(try simp-implicitDefEqProofs only[j]);(try simp at j))<;>try simp-implicitDefEqProofs))
  all_goals (repeat' (with_reducible apply j2))
  all_goals exact gL tI
end Rg
end Go.Proofs.YtknalmoackcpbaaGreat
