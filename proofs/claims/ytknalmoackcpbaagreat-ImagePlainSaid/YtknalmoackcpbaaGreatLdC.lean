/- Chapter 10: Load, that takes back what was given up. -/
import Derived.Test.YtknalmoackcpbaaGreatRtP
set_option maxRecDepth 100000
set_option maxHeartbeats 3200000
set_option linter.all false
open Go Go.AW Go.Proofs.Tryz List
namespace Go.Proofs.YtknalmoackcpbaaGreat
namespace Im
def LH (S:List Nat):bH prog [(2,(.S 0 (.A 1 (.A 2 (.A 3 .D .Z) .Z) (.A 2 (.R 1 (.A 3 .D .Z)) .Z))))] S:=mixed
def ad.F7 {P:Program}{f:FuncId}{M:List AV}{σ:AS}{R O:AV→AS→Prop}(Y:lk P f=true) (id k:Nat) {ty:TypeId}{cs:List AV}(e:TypeId) (q:σ id=some (.cells ty cs)) (K:k<cs.length) (V:cs.getD k .any= .ai)
 (h:∀F,σ F=none→ad P f M ((σ.set id (.cells ty (cs.set k (.ao e [] (.tok F) true)))).set F (.tok 0)) R O):ad P f M σ R O:=by
 refine⟨Y,fun G w vals u X=> ?_⟩;obtain⟨b,vs,g1,g2,g3,d⟩:=u.cells id ty cs q;have I:aV P G (.ao e [] .full true) (vs.getD k undef):=by have:=(d k K).1;rw[V]at this;generalize vs.getD k undef=v at this⊢;cases this;exact .iP ⟨none,rfl⟩
 obtain⟨r,i,T,Q⟩:=I.fy u;have n:id≠G.top:=by intro e';subst e';rw[u.fresh]at q;cases q
 have H:(σ.set G.top (.tok 0)) id=some (.cells ty cs):=by simp[AS.set,n,q]
 have l:=T.s8 (cs':=cs.set k (.ao e [] (.tok G.top) true)) H (i.inj _ _ g1) g2 (by simp) (fun j L=>by
  simp at L;by_cases o:j=k
  ·subst o;rw[getD_eq_getElem?_getD,getElem?_set_self K];exact Q
  ·rw[getD_eq_getElem?_getD,getElem?_set_ne (fun e=>o e.symm),←getD_eq_getElem?_getD];exact((d j L).1).mono i)
 rw[AS.set_comm (fun e=>n e.symm)]at l;refine((h G.top u.fresh).run _ w vals l (X.mono i)).mono fun x w' he=> ?_;unfold kE at he⊢;split at he
 ·obtain⟨J,E,r,g1,g2,g3,d⟩:=he;exact⟨J,E,r,i.trans g1,g2,g3,d⟩
 ·obtain⟨x,y,J,E,r,g1,g2,g3,d⟩:=he;exact⟨x,y,J,E,r,i.trans g1,g2,g3,d⟩
 ·exact he.elim
def Ek (l j:Nat) (σ:AS) (K:AS→Prop) (i:∀id,σ id=none→K (σ.set id (.cells 99 [zI 0,zI 0,zI 0]))):bX prog 43 [.ptr l 0,.ptr j 0] σ none K:=by
 refine bX.of func43 rfl rfl (by simp[ntmps43]) (by simp[ntmps43]) ?_;refine bq.sp rfl (ia.mH (by simp[ntmps43]) underlying99 trivial (by kernel_rfl) rfl ?_);refine bq.rest ?_;have h:ax prog 99= .agg [zI 0,zI 0,zI 0]:=by kernel_rfl
 simp-implicitDefEqProofs [h,ntmps43];intro id d;refine gO aa tI tI ?_;exact i id d
def rC:bY:=⟨[],true,[],true,[],true,0⟩
def Gl (f:gD):AV:= .agg [zI f.1,zI f.2.1,zI f.2.2]
def rB (i h:Nat) (f:gD) (H G F E y w v:AV) (σ:AS) (K:AS→Prop) (u:σ i=some (.cells 26 [H,G,F,E])) (q:σ h=some (.cells 39 [y,w,v])) (j:i≠h)
 (J:∀id,σ id=none→K (((σ.set id (.cells 99 [zI f.1,zI f.2.1,zI f.2.2])).set i (.cells 26 [.ai,.ai,.ai,zI 0])).set h (.cells 39 [zI f.1,zI f.2.1,zI f.2.2]))):
 bX prog 43 [.ptr i 0,.ptr h 0] σ (some (pQ f)) K:=by
 refine bX.of func43 rfl rfl (by simp[ntmps43]) (by simp[ntmps43]) ?_;refine bq.sp rfl (ia.oL (by simp[ntmps43]) underlying99 trivial rfl ?_);refine bq.rest ?_;simp-implicitDefEqProofs [ntmps43,pQ,recV];intro id d;have o:¬i=id:=nq u d;have n:¬h=id:=nq q d;have l:=aK o;have I:=aK n;refine gO (S:= [2]) LH tI tI ?_
 with_reducible apply aq.iL (id:=2) (t:=bW.S 0 (bW.A 1 (bW.A 2 (bW.A 3 bW.D bW.Z) bW.Z) (bW.A 2 (bW.R 1 (bW.A 3 bW.D bW.Z)) bW.Z)))
 ·exact mixed
 ·kernel_rfl
 ·kernel_rfl
 ·exact Rw.bo.Tn
 simp-implicitDefEqProofs [u,q,j.symm,o,n,l];all_goals exact J id d
def TZ (X:Except gD bY) (σ:AS) (r:AV) (d:AS):Prop:=
 (∃g nl,X= .ok g∧(nl=true→g.ts= [])∧ah (.bI [mr { g with tn:=nl },Gl (0,0,0)]) σ r d)∨(∃f,X= .error f∧ah (.bI [mr rC,Gl f]) σ r d)
def Pd {T:List (List (List Int))}(h:T.length=6):T= [tb T 0,tb T 1,tb T 2,tb T 3,tb T 4,tb T 5]:=by
 match T,h with
 |[a,b,c,d,e,f],_ =>rfl
def FD {b:zY}{mk:Nat} :∀ {d:zY}{a:Nat}{l:List Int}{n:Nat},Rw.gq b mk d a= .ok (l,n)→ ∀v∈l,0≤v∧v<4294967296
 |[],a,l,n,h=>by simp only[Rw.gq]at h;cases h;simp
 |c::d,a,l,n,h=>by
  rw[Rw.gq]at h;cases j:Rw.fW b a (wK c mk).toNat with
  |error e=>rw[j]at h;cases h
  |ok z=>
   obtain⟨v,u⟩:=z;rw[j]at h;simp only at h;cases i:Rw.gq b mk d u with
   |error e=>rw[i]at h;cases h
   |ok z=>
    obtain⟨y,E⟩:=z;rw[i]at h;cases h;obtain⟨q,o,_⟩:=Rw.fx j;have hw:=Rw.Bz c mk;have:=Rw.BO q (by omega);rw[←o]at this;intro w hw;rcases mem_cons.1 hw with rfl|hw
    ·exact this
    ·exact FD i w hw
def FB {b:zY}{mk:Nat}{d:zY} :∀ {n a:Nat}{l:List (List Int)}{o:Nat},Rw.jL b mk d n a= .ok (l,o)→ ∀r∈l,∀v∈r,0≤v∧v<4294967296
 |0,a,l,o,h=>by simp only[Rw.jL]at h;cases h;simp
 |n+1,a,l,o,h=>by
  rw[Rw.jL]at h;cases j:Rw.gq b mk d a with
  |error e=>rw[j]at h;cases h
  |ok z=>
   obtain⟨v,q⟩:=z;rw[j]at h;simp only at h;cases i:Rw.jL b mk d n q with
   |error e=>rw[i]at h;cases h
   |ok z=>
    obtain⟨u,y⟩:=z;rw[i]at h;cases h;intro w hw;rcases mem_cons.1 hw with rfl|hw
    ·exact FD j
    ·exact FB i w hw
def Fk {b:zY}{mk:Nat} :∀ {cs:List Int}{t a:Nat}{l:List (List (List Int))}{j:Nat},Rw.jK b mk cs t a= .ok (l,j)→ ∀x∈l,∀r∈x,∀v∈r,0≤v∧v<4294967296
 |[],t,a,l,j,h=>by simp only[Rw.jK]at h;cases h;simp
 |c::cs,t,a,l,j,h=>by
  rw[Rw.jK]at h;cases i:Rw.jL b mk (bC (t:Int)) c.toNat a with
  |error e=>rw[i]at h;cases h
  |ok z=>
   obtain⟨v,n⟩:=z;rw[i]at h;simp only at h;cases d:Rw.jK b mk cs (t+1) n with
   |error e=>rw[d]at h;cases h
   |ok z=>
    obtain⟨o,q⟩:=z;rw[d]at h;cases h;intro w hw;rcases mem_cons.1 hw with rfl|hw
    ·exact FB i
    ·exact Fk d w hw
def N8 {b:zY}{en:Int}{T:List (List (List Int))}{a:Nat}(h:Rw.kL b= .ok ((en,T),a)):∀x∈T,∀r∈x,∀v∈r,0≤v∧v<4294967296:=by
 unfold Rw.kL at h;split at h
 ·cases h
 split at h
 ·cases h
 split at h
 ·cases h
 split at h
 ·cases h
 split at h
 ·cases h
 rename_i d;cases h;exact Fk d
def IP {b:zY}{en:Int}{T:List (List (List Int))}(h:Rw.my b=(some (en,T),0,0)):
 T.length=6∧(0≤en∧en<4294967296)∧nD 5 (tb T 0)∧nD 3 (tb T 1)∧nD 6 (tb T 2)∧nD 2 (tb T 3)∧nD 1 (tb T 4)∧nD 1 (tb T 5):=by
 obtain⟨h1,_,_,E,y,_⟩:=Rw.D3 h;have hf:∀x∈T,∀r∈x,∀v∈r,0≤v∧v<4294967296:=by
  rcases Rw.mw b with⟨e,_,j⟩|⟨v,a,w,⟨_,j⟩|⟨ha,j⟩⟩
  ·rw[j]at h;cases h
  ·rw[j]at h;cases h
  rw[j]at h;cases h;exact N8 w
 have q:T.length=6∧Rw.im 0 T=true:=by simpa[Rw.eM]using h1
 have o:=Rw.sv y;have d:∀k n,(bC (k:Nat)).length=n→k<6→nD n (tb T k):=fun k n u F=>by
  have i:T[k]? =some T[k]:=getElem?_eq_getElem (by omega);have ht:tb T k=T[k]:=by unfold tb;rw[getD_eq_getElem?_getD,i];rfl
  have hm:T[k]∈T:=getElem_mem _;rw[ht];exact⟨E _ hm,fun r l=>⟨by rw[←u];exact Rw.HH q.2 i r l,hf _ hm r l⟩⟩
 exact⟨q.1,⟨o.1,o.2.1⟩,d 0 5 rfl (by omega),d 1 3 rfl (by omega),d 2 6 rfl (by omega),d 3 2 rfl (by omega),d 4 1 rfl (by omega),d 5 1 rfl (by omega)⟩
def d0:LD:=⟨[],[],.ai,[],[]⟩
def LI.start {f:FuncId}{e:LE}{S:AS}{id:Nat}{R H:AV→AS→Prop}(w:lk prog f=true) (I:U8 e) (h0:S id=none)
 (h:∀k τ,LI k e d0 S τ→k.id=id→ad prog f [.ptr k.id 0] τ R H):
 ad prog f [.ptr id 0] (S.set id (.cells 108 [.ao 5 (e.R.map u8) .aI e.rn,.ao 5 (e.N.map u8) .aI e.nn,.ao 5 (e.B.map u8) .aI e.bn,.ao 5 (e.C.map u8) .aI e.cn,
  zI e.en,.ao 94 [kF e.t0,kF e.t1,kF e.t2,kF e.t3,kF e.t4,kF e.t5] .aI false,.ai,.ai,.ai,.ai,.ai,zI 0])) R H:=by
 refine ad.F7 w id 6 49 (AS.ak _ _ _) (by simp) rfl fun t1 h1=> ?_;have n1:id≠t1:=by rintro rfl;simp at h1
 have s1:S t1=none:=by rw[AS.ae _ _ n1.symm]at h1;exact h1
 rw[AS.set_set];refine ad.F7 w id 7 47 (by rw[AS.ae _ _ n1,AS.ak]) (by simp) rfl fun t2 q=> ?_;have n2:t2≠t1:=by rintro rfl;simp at q
 have d:id≠t2:=by rintro rfl;rw[AS.ae _ _ n1]at q;simp at q
 have s2:S t2=none:=by rw[AS.ae _ _ n2,AS.ae _ _ d.symm]at q;exact q
 rw[AS.set_comm n1.symm,AS.set_set];refine ad.F7 w id 9 56 (by rw[AS.ae _ _ d,AS.ae _ _ n1,AS.ak]) (by simp) rfl fun t3 l=> ?_;have v:t3≠t2:=by rintro rfl;simp at l
 have n:id≠t3:=by rintro rfl;rw[AS.ae _ _ d,AS.ae _ _ n1]at l;simp at l
 have F:t3≠t1:=by rintro rfl;rw[AS.ae _ _ v]at l;simp at l
 have s3:S t3=none:=by rw[AS.ae _ _ v,AS.ae _ _ F,AS.ae _ _ n.symm]at l;exact l
 rw[AS.set_comm d.symm,AS.set_comm n1.symm,AS.set_set];refine ad.F7 w id 10 53 (by rw[AS.ae _ _ n,AS.ae _ _ d,AS.ae _ _ n1,AS.ak]) (by simp) rfl fun t4 i=> ?_;have o:t4≠t3:=by rintro rfl;simp at i
 have E:id≠t4:=by rintro rfl;rw[AS.ae _ _ n,AS.ae _ _ d,AS.ae _ _ n1]at i;simp at i
 have u:t4≠t2:=by rintro rfl;rw[AS.ae _ _ o]at i;simp at i
 have y:t4≠t1:=by rintro rfl;rw[AS.ae _ _ o,AS.ae _ _ u]at i;simp at i
 have s4:S t4=none:=by rw[AS.ae _ _ o,AS.ae _ _ u,AS.ae _ _ y,AS.ae _ _ E.symm]at i;exact i
 rw[AS.set_comm n.symm,AS.set_comm d.symm,AS.set_comm n1.symm,AS.set_set];refine h ⟨id,t1,t2,t3,t4⟩ _ ⟨?_,?_,?_,?_,?_,?_,?_,?_,I⟩ rfl
 ·simp only;rw[AS.ae _ _ E,AS.ae _ _ n,AS.ae _ _ d,AS.ae _ _ n1,AS.ak];rfl
 ·simp only;rw[AS.ae _ _ y.symm,AS.ae _ _ F.symm,AS.ae _ _ n2.symm,AS.ak];rfl
 ·simp only;rw[AS.ae _ _ u.symm,AS.ae _ _ v.symm,AS.ak];rfl
 ·simp only;rw[AS.ae _ _ o.symm,AS.ak];rfl
 ·simp only;rw[AS.ak];rfl
 ·exact AS.aj (AS.aj (AS.aj (AS.aj (AS.aj (lR _) h0) s1) s2) s3) s4
 ·simp[n1,d,n,E,n2.symm,F.symm,y.symm,v.symm,u.symm,o.symm]
 ·intro j G;simp only[mem_cons,not_mem_nil,or_false]at G;rcases G with rfl|rfl|rfl|rfl|rfl<;>assumption
def RY {T:List (List (List Int))}(h:T.length=6):(T.map fun l=>Rw.lV (l.map fun r=>(r,decide (r= [])),decide (l= [])))= [kF (tb T 0),kF (tb T 1),kF (tb T 2),kF (tb T 3),kF (tb T 4),kF (tb T 5)]:=by
 have hf:∀l:List (List Int),Rw.lV (l.map fun r=>(r,decide (r= [])),decide (l= []))=kF l:=fun l=>by simp[Rw.lV,kF,Rw.iV,uW,Function.comp_def]
 rw[show(fun l:List (List Int)=>Rw.lV (l.map fun r=>(r,decide (r= [])),decide (l= [])))=kF from funext hf]
 conv=>lhs;rw[Pd h]
 rfl
def Au (b:zY) (o:cC) (nl:Bool) (b2:nl=true→b= []) (hl:b.length≤140737488355328) (σ:AS):
 ad prog 16 [.ao 5 (b.map u8) o nl] σ (TZ (pa b) σ) No:=by
 have av:=fun σ=>St.I0 b o nl b2 σ hl;have bc:=fun a p x σ=>qG a p x σ;obtain⟨X,P⟩:∃X,pa b=X:=⟨_,rfl⟩;rw[P];unfold pa at P;have O:=St.yJ b;have M:=St.v7 b;have a3:= @St.v9 b;obtain⟨K,Y,V,Q,a0,e0,hS⟩:=St.uw b;rw[hS]at av P O M a3;simp only[St.RS,St.zR,St.sV,map_cons,map_nil]at av;simp only at P a3 O M;refine ad.iZ func16 rfl rfl (by simp[ntmps16]) (fun G1=> ?_);apply kS.seq;have a9:f16.ntmps=38:=rfl;simp-implicitDefEqProofs only[a9];refine gO aa tI tI ?_;intro l a2;refine gO aa tI tI ?_;intro id3 u a1;have d:=aK u;apply kS.defer (by simp) (by decide+kernel);intro D;simp-implicitDefEqProofs only[a9];obtain⟨B,be,H,G,hle⟩:∃B:AS,((σ.set l (.cells 26 [.ai,.ai,.ai,zI 0])).set id3 (.cells 39 [zI 0,zI 0,zI 0]))=B∧B l=some (.cells 26 [.ai,.ai,.ai,zI 0])∧B id3=some (.cells 39 [zI 0,zI 0,zI 0])∧
  ∀S:AS,(∀j,j≠l→j≠id3→ ∀y,B j=some y→S j=some y)→AS.le σ S:=by
  refine⟨_,rfl,by simp[d],by simp,?_⟩;intro S h j x q;have e4:j≠l:=nq a2 q;have e5:j≠id3:=nq a1 q;exact h j e4 e5 x (by simp[AS.set,e4,e5,q])
 simp only[be];clear be;refine gO aa tI @av ?_;intro F E;have b0:¬F=l:=nq H E;have bv:¬F=id3:=nq G E;have a8:=aK b0;have a6:=aK bv;by_cases he:e0=0;rotate_left
 ·have I:X= .error (e0,0,a0):=by rw[←P,if_pos he]
  refine gO aa @he @bc ?_;refine rB l id3 (e0,0,a0) .ai .ai .ai (zI 0) (zI 0) (zI 0) (zI 0) _ _ (by simp[a8,H]) (by simp[a6,G]) d ?_;intro v i;simp-implicitDefEqProofs [d];have f2:∀j,B j≠none→j≠v:=fun j q=>by
   rintro rfl;have h4:j≠F:=by rintro rfl;exact q E
   rw[AS.ae _ _ h4]at i;exact q i
  refine⟨_,σ,by unfold mr rC Gl;exact cq (St.mL (by simp) (by simp) (by simp) (Wk.refl _)) (Wk.refl _),?_,.inr ⟨_,I,rfl,rfl⟩⟩;refine hle _ fun j e4 e5 y q=> ?_;have e6:j≠v:=f2 j (by rw[q];simp);have e7:j≠F:=nq E q;rw[AS.ae _ _ e5,AS.ae _ _ e4,AS.ae _ _ e6,AS.ae _ _ e7];exact q
 subst he;have c0:=a3 rfl;rw[if_neg (by simp)]at P;have L:=fun σ=>Rw.IC K.1 .aI K.2 (M K (by simp)) (by have:=O K (by simp);omega) σ;simp only[Kl,zT,getD_cons_zero]at P;rcases Rw.te K.1 with⟨ra,re,hR,b1⟩|⟨en,T,hR⟩
 ·rw[hR]at P L;have I:X= .error (re,1,ra):=P.symm;simp only[Rw.Pe]at L;refine gO aa tI @L ?_;intro w hn n;have ap:¬w=l:=nq H n;have am:¬w=id3:=nq G n;have a7:=aK ap;have a5:=aK am;refine gO aa @b1 @bc ?_;refine rB l id3 (re,1,ra) .ai .ai .ai (zI 0) (zI 0) (zI 0) (zI 0) _ _ (by simp[a8,a7,H]) (by simp[a6,a5,G]) d ?_;intro v i;simp-implicitDefEqProofs [d];have f2:∀j,B j≠none→j≠v:=fun j q=>by
   rintro rfl;have h4:j≠F:=by rintro rfl;exact q E
   have h7:j≠w:=by rintro rfl;exact q n
   rw[AS.ae _ _ h7,AS.ae _ _ h4]at i;exact q i
  refine⟨_,σ,by unfold mr rC Gl;exact cq (St.mL (by simp) (by simp) (by simp) (Wk.refl _)) (Wk.refl _),?_,.inr ⟨_,I,rfl,rfl⟩⟩;refine hle _ fun j e4 e5 y q=> ?_;have e6:j≠v:=f2 j (by rw[q];simp);have e7:j≠F:=nq E q;have e8:j≠w:=nq n q;rw[AS.ae _ _ e5,AS.ae _ _ e4,AS.ae _ _ e6,AS.ae _ _ e8,AS.ae _ _ e7];exact q
 rw[hR]at P L;simp only at P;obtain⟨b5,b4,q0,q1,q2,q3,q4,q5⟩:=IP hR;simp only[Rw.Pe,Rw.RZ,RY b5]at L;obtain⟨e,hE⟩:∃e,M8 [K,Y,V,Q] en T=e:=⟨_,rfl⟩;have ca:U8 e:=by
  rw[←hE];exact⟨by have:=O Y (by simp);simp only[M8,zT,getD_cons_zero,getD_cons_succ];omega,by have:=O V (by simp);simp only[M8,zT,getD_cons_zero,getD_cons_succ];omega,by have:=O Q (by simp);simp only[M8,zT,getD_cons_zero,getD_cons_succ];omega,
   M Y (by simp),M V (by simp),M Q (by simp),b4,q0,q1,q2,q3,q4,q5⟩
 refine gO aa tI @L ?_;intro w hn n;have ap:¬w=l:=nq H n;have am:¬w=id3:=nq G n;have a7:=aK ap;have a5:=aK am;have b3:=aK hn;refine gO aa @b3 tI ?_;intro ar cb cc ab;have db:¬ar=l:=nq H ab;have c9:¬ar=id3:=nq G ab;have hc:=LI.start (f:=47) (S:=(B.set F (.cells 85 [.ao 5 (K.1.map u8) .aI K.2,.ao 5 (Y.1.map u8) .aI Y.2,.ao 5 (V.1.map u8) .aI V.2,.ao 5 (Q.1.map u8) .aI Q.2])).set w (.cells 63 [zI en,.ao 94 [kF (tb T 0),kF (tb T 1),kF (tb T 2),kF (tb T 3),kF (tb T 4),kF (tb T 5)] .aI false])) (id:=ar) (by kernel_rfl) ca
  (by rw[AS.ae _ _ cb,AS.ae _ _ cc];exact ab) (fun k τ h _ =>h.image rfl rfl rfl rfl rfl)
 have J:AS.le B ((B.set F (.cells 85 [.ao 5 (K.1.map u8) .aI K.2,.ao 5 (Y.1.map u8) .aI Y.2,.ao 5 (V.1.map u8) .aI V.2,.ao 5 (Q.1.map u8) .aI Q.2])).set w (.cells 63 [zI en,.ao 94 [kF (tb T 0),kF (tb T 1),kF (tb T 2),kF (tb T 3),kF (tb T 4),kF (tb T 5)] .aI false])):=
  AS.aj (AS.aj (lR _) E) n
 rw[←hE]at hc;refine ag.of hc ?_ ?_
 ·generalize ((B.set F (.cells 85 [.ao 5 (K.1.map u8) .aI K.2,.ao 5 (Y.1.map u8) .aI Y.2,.ao 5 (V.1.map u8) .aI V.2,.ao 5 (Q.1.map u8) .aI Q.2])).set w (.cells 63 [zI en,.ao 94 [kF (tb T 0),kF (tb T 1),kF (tb T 2),kF (tb T 3),kF (tb T 4),kF (tb T 5)] .aI false]))=S at J⊢;rintro r τ' ⟨g,hg,bs,bb,rfl,rfl⟩;have I:X= .ok g:=P.symm.trans hg;have k2:=J _ _ H;have k3:=J _ _ G;simp only[bj];simp-implicitDefEqProofs [k2,k3,u];refine gO aa tI tI ?_;refine Ek l id3 _ _ ?_;intro v i;have f2:¬l=v:=by rintro rfl;rw[AS.ae _ _ d,AS.ak]at i;cases i
  have f3:¬id3=v:=by rintro rfl;rw[AS.ak]at i;cases i
  simp-implicitDefEqProofs [d,f2,f3];refine⟨_,σ,Wk.refl _,?_,.inl ⟨g,bs,I,bb,rfl,rfl⟩⟩;refine hle _ fun j e4 e5 y q=> ?_;have e6:j≠v:=by rintro rfl;rw[AS.ae _ _ e5,AS.ae _ _ e4,J _ _ q]at i;cases i
  rw[AS.ae _ _ e6,AS.ae _ _ e5,AS.ae _ _ e4];exact J _ _ q
 ·generalize ((B.set F (.cells 85 [.ao 5 (K.1.map u8) .aI K.2,.ao 5 (Y.1.map u8) .aI Y.2,.ao 5 (V.1.map u8) .aI V.2,.ao 5 (Q.1.map u8) .aI Q.2])).set w (.cells 63 [zI en,.ao 94 [kF (tb T 0),kF (tb T 1),kF (tb T 2),kF (tb T 3),kF (tb T 4),kF (tb T 5)] .aI false]))=S at J⊢;rintro p τ' ⟨f,hf,rfl,b6⟩;have I:X= .error f:=P.symm.trans hf;have al:=AS.le_trans J b6;simp-implicitDefEqProofs;refine rB l id3 f .ai .ai .ai (zI 0) (zI 0) (zI 0) (zI 0) _ _ (al _ _ H) (al _ _ G) d ?_;intro v i;simp-implicitDefEqProofs [d];refine⟨_,σ,by unfold mr rC Gl;exact cq (St.mL (by simp) (by simp) (by simp) (Wk.refl _)) (Wk.refl _),?_,.inr ⟨_,I,rfl,rfl⟩⟩;refine hle _ fun j e4 e5 y q=> ?_;have e6:j≠v:=by rintro rfl;rw[al _ _ q]at i;cases i
  rw[AS.ae _ _ e5,AS.ae _ _ e4,AS.ae _ _ e6];exact al _ _ q
open Rg (Cl fY aL)
def OV (t:TD):TD:= { t with fn:=t.bg.isEmpty }
def EJ (m:Mt):Mt:= { m with pn:=m.ps.isEmpty,ln:=m.ls.isEmpty,cn:=m.code.isEmpty,xn:=m.cls.isEmpty }
def pZ (g:bY):bY:= { g with ts:=g.ts.map OV,tn:=g.ts.isEmpty,fn:=g.fs.isEmpty,ms:=g.ms.map EJ,mn:=g.ms.isEmpty }
open Rg (Cl b7 bz dA)
open Sg (hU cM fP b9 mX iX mj kZ dO gY eT fR nh dy)
open Pl (bJ bU)
def SW {α:Type}(l:List α) [Decidable (l= [])]:decide (l= [])=l.isEmpty:=by cases l<;>simp
def iW (g:bY):LE:=M8 (St.MV fun k=>St.iN (Rw.dd (kp g (nu g) (nW g)) (g.entry+1)) (bJ (mA g)).1 (bU (dT g)).1 (dx g).co k) (g.entry+1) (kp g (nu g) (nW g))
def Aq {g:bY}(d:(bJ (mA g)).2.2=0) {i:Nat}{s:zY}(h:(mA g)[i]? =some s):kO (iW g).N (nu g i)= .ok s:=by have h1:=(Pl.J4 d h).1;have j:Pl.jc (iW g).N (nu g i)=(s,0):=h1;unfold kO;rw[j];rfl
def vK {g:bY}(d:(bU (dT g)).2.2=0) {i:Nat}{s:zY}(h:(dT g)[i]? =some s):iF (iW g).B (nW g i)= .ok s:=by have h1:=Pl.Lf d h (by have:=A3 g s (mem_of_getElem? h);omega);have j:Pl.jr (iW g).B (nW g i)=(s,0):=h1;unfold iF;rw[j];rfl
def jG (g:bY):(iW g).t0.length=g.ts.length:=by show(cG g (nu g)).length= _;simp[cG]
def vV (g:bY):(iW g).t1.length=g.fs.length:=by show(cB g (nu g) (nW g)).length= _;simp[cB]
def vU (g:bY):(iW g).t2.length=g.ms.length:=by show(cI g (nu g) (nW g)).length= _;simp[cI,dK]
def IU (g:bY):(iW g).t4.length=(dx g).sp.length:=by show(dD g (nW g)).length= _;simp[dD]
def IT (g:bY):(iW g).t5.length=(dx g).lo.length:=by show(dW g (nW g)).length= _;simp[dW]
def AL {t:Ty}{n:Int}(h:iR t n=true):aP t=true∧ ¬t.kind=1∧t.ref=false∧eo t n=true∧bO t=true:=by unfold iR at h;rw[Bool.and_eq_true]at h;have h1:=h.1;unfold bO aZ at h1;simp only[Bool.and_eq_true,Bool.not_eq_true',decide_eq_false_iff_not]at h1;exact⟨h1.1.1,h1.1.2,h1.2,h.2,h.1⟩
def vC {t:Ty}{n:Int}(h:iQ t n=true):aZ t=true∧eo t n=true:=by unfold iQ at h;rwa [Bool.and_eq_true]at h
def FR {nt:Int}{i:Nat} :∀ {l:List Ty},(∀t∈l,eo t nt=true)→kN nt i l= .ok ()
 |[],_ =>rfl
 |t::r,h=>by simp only[kN];rw[h t (mem_cons_self ..),m9];exact FR fun y d=>h y (mem_cons_of_mem _ d)
def FQ {nt:Int}{i:Nat} :∀ {l:List Ty},(∀t∈l,eo t nt=true)→kM nt i l= .ok ()
 |[],_ =>rfl
 |t::r,h=>by simp only[kM];rw[h t (mem_cons_self ..),m9];exact FQ fun y d=>h y (mem_cons_of_mem _ d)
def J6 {e:LE}{sp:List Ty}{lo:List (List Ty)}{d:List Int}(rows:List (List Int)) (out:List Mt) (hl:rows.length=out.length) (key:∀j (a:j<rows.length) (b:j<out.length),wX e sp lo d (0+j) rows[j]= .ok out[j]):kx e sp lo d [] 0 rows= .ok out:=
 lx (F:=kx e sp lo d) (step:=wX e sp lo d) (fun _ _ =>rfl) (fun _ _ _ _ =>rfl) rows out [] 0 hl key
def KQ {N B:zY}{nt:Int}{d:List Int}(rows:List (List Int)) (out:List Fd) (hl:rows.length=out.length) (key:∀j (a:j<rows.length) (b:j<out.length),Aw N B nt d (0+j) rows[j]= .ok out[j]):lP N B nt d [] 0 rows= .ok out:=
 lx (F:=lP N B nt d) (step:=Aw N B nt d) (fun _ _ =>rfl) (fun _ _ _ _ =>rfl) rows out [] 0 hl key
variable {g:bY}
def Ji (h:zD g) (v:(bU (dT g)).2.2=0):eK (iW g).B (iW g).t0.length [] 0 (iW g).t4= .ok (dx g).sp:=by
 have l:=(zU h g.ms.length).1;rw[←Fo]at l;refine lx (F:=eK (iW g).B (iW g).t0.length) (step:=fun i r=>cA (iF (iW g).B (eW r 0)) fun b=>bK (decide (Ir (eT b)=0)) (Ir (eT b)) 4 i (bK (eo (fP (eT b)) (iW g).t0.length) 5 4 i (.ok (fP (eT b)))))
  (fun _ _ =>rfl) (fun acc i r rs=>by simp only[eK,iI,fO,cL]) (iW g).t4 (dx g).sp [] 0 (IU g) fun j a b=> ?_
 obtain⟨d,u,q,o,_⟩:=AL (l _ (getElem_mem b));have G:eW (iW g).t4[j] 0=nW g (g.fs.length+g.ms.length+j):=by show eW (dD g (nW g))[j] 0= _;simp[dD,qd,eW]
 have n:=vK v (TF b);have E:cM (mj (dx g).sp[j])=hU (dx g).sp[j]:=by unfold mj;rw[if_pos d];rfl
 rw[E]at n;have y:=Sg.Gk d;simp only[G,n,cL,y];have w:Ir (.ok (dx g).sp[j])=0:=by simp[Ir,b9,fP,u,q]
 rw[w,jG];simp only[fP,o];rfl
def Mr (h:zD g) (u:(bU (dT g)).2.2=0):gZ (iW g).B (iW g).t0.length [] 0 (iW g).t5= .ok (dx g).lo:=by
 have n:=(zU h g.ms.length).2;rw[←Fo]at n;refine lx (F:=gZ (iW g).B (iW g).t0.length) (step:=fun i r=>cA (iF (iW g).B (eW r 0)) fun b=>bK (decide (b9 (fR b)=0)) (b9 (fR b)) 5 i (cA (kN (iW g).t0.length i (mX (fR b))) fun _ => .ok (mX (fR b))))
  (fun _ _ =>rfl) (fun acc i r rs=>by simp only[gZ,iI,fO,cL]) (iW g).t5 (dx g).lo [] 0 (IT g) fun j a b=> ?_
 obtain⟨q,l⟩:=n _ (getElem_mem b);have d:∀t∈(dx g).lo[j],aZ t=true:=fun t ht=>(vC (l t ht)).1;have y:eW (iW g).t5[j] 0=nW g (g.fs.length+g.ms.length+(dx g).sp.length+j):=by show eW (dW g (nW g))[j] 0= _;simp[dW,qd,eW]
 have o:=vK u (TH b);have w:cM (dO (dx g).lo[j])=Sg.Gb (dx g).lo[j]:=by unfold dO;rw[if_neg (by omega),if_pos (by rw[all_eq_true];exact d)];rfl
 rw[w]at o;have v:=Sg.Qb q d;simp only[y,o,cL,v,b9,mX];rw[jG,FR fun t ht=>(vC (l t ht)).2];rfl
def HX {x:Int}(h0: -1≤x) (h1:x≤1000):(bM (4*(x+1))).2.2=0∧(bM (4*(x+1))).1≠4∧(bM (4*(x+1))).2.1=x+1:=by
 unfold bM;by_cases e:4*(x+1)=0
 ·rw[if_pos e];exact⟨rfl,(by decide:(-1:Int)≠4),by show(0:Int)=x+1;omega⟩
 ·rw[if_neg e,if_neg (by omega),if_pos (by omega)];exact⟨rfl,(by decide:(0:Int)≠4),by show 4*(x+1)/4=x+1;omega⟩
def Px (h:zD g) (n:(bJ (mA g)).2.2=0):jE (iW g).N (iW g).t0.length [] 0 (iW g).t0= .ok (g.ts.map fun t=>zN t []):=by
 refine lx (F:=jE (iW g).N (iW g).t0.length) (step:=Hx (iW g).N (iW g).t0.length) (fun _ _ =>rfl) (fun acc i r rs=>rfl) (iW g).t0 (g.ts.map fun t=>zN t []) [] 0 (by rw[jG];simp) fun j a b=> ?_;have l:j<g.ts.length:=by simpa using b
 have d:=h.t _ (getElem_mem l);have o:=h.ts;have u:(iW g).t0[j]=qY g (nu g) j g.ts[j]:=by show(cG g (nu g))[j]'(by simpa[cG]using l)= _;simp[cG]
 have q:=Aq n (P5 l);obtain⟨y,w,v⟩:=HX d.ext.1 (by have:=d.ext.2;omega);rw[u,jG];simp only[Nat.zero_add,getElem_map];unfold Hx qY;simp only[eW,getD_cons_zero,getD_cons_succ,q,cL,y,v];have d1:decide (g.ts[j].flags≤31)=true:=by rw[decide_eq_true_eq];exact d.fl.2
 have d2:decide (True∧(bM (4*(g.ts[j].ext+1))).1≠4∧g.ts[j].ext+1≤(g.ts.length:Int))=true:=by rw[decide_eq_true_eq];exact⟨trivial,w,by have:=d.ext.2;omega⟩
 rw[d1,d2,m9,m9,show g.ts[j].ext+1-1=g.ts[j].ext by omega];rfl
def Jh (h:zD g) (d:(bJ (mA g)).2.2=0):ki (iW g)= .ok (g.ts.map OV):=by unfold ki;rw[Px h d,cL];have hf:=uF (n:=g.ts.length) g.ts [] 0 (by simp) fun t ht=>⟨(h.t t ht).UL,(h.t t ht).fc⟩;simp only[length_nil,Nat.zero_add,nil_append]at hf;rw[jG];have i:(iW g).t3=(g.ts.mapIdx fun j t=>fS j t).flatten:=rfl;rw[i,hf];congr 2;funext t;simp[zN,OV,SW]
def Jj (c:Nat) (d:List Int) (n:d.Pairwise (· ≤ ·)) (i:∀x∈d,0≤x∧x<(g.ts.length:Int)) (o:∀j (a:j<g.ts.length),eW (qY g (nu g) j g.ts[j]) c=eU d j):
 eu c d.length (iW g).t0.length [] 1 0 (iW g).t0= .ok d:=by
 have h1:=wW (c:=c) n i (iW g).t0 0 (by rw[jG];simp) fun j a=>by
  have h:j<g.ts.length:=by rw[jG]at a;exact a
  have u:(iW g).t0[j]=qY g (nu g) j g.ts[j]:=by show(cG g (nu g))[j]'(by simpa[cG]using h)= _;simp[cG]
  rw[u,o j h,Nat.zero_add]
 have q:dJ d (((0:Nat):Int)-1)= []:=vR fun x l=>by have:=i x l;omega
 rw[q]at h1;rw[jG];exact h1
def Nv {t:Ty}(h:bO t=true) (d:aP t=true):nh (6::hU t)= .ok t:=by unfold nh;simp only[if_true,Sg.Gk d,h]
def GX (h:zD g) (v:(bJ (mA g)).2.2=0) (w:(bU (dT g)).2.2=0):ky (iW g)= .ok g.fs:=by
 unfold ky;have h0:(decide ((iW g).t1= [])||decide (0<(iW g).t0.length))=true:=by
  rw[Bool.or_eq_true,decide_eq_true_eq,decide_eq_true_eq,jG];by_cases hf:g.fs.length=0
  ·left;rw[←length_eq_zero_iff,vV];exact hf
  ·right;have:=(h.f _ (getElem_mem (show 0<g.fs.length by omega))).2.1;have:=(h.f _ (getElem_mem (show 0<g.fs.length by omega))).1;omega
 rw[h0,m9];have l:=Jj (g:=g) 3 (g.fs.map (·.owner)) h.fo (fun x u=>by obtain⟨f,hf,rfl⟩:=mem_map.1 u;have:=h.f f hf;exact⟨this.1,this.2.1⟩) (fun j a=>by simp only[eW,qY,getD_cons_zero,getD_cons_succ]);rw[length_map]at l;rw[vV,l,cL];refine KQ (iW g).t1 g.fs (vV g) fun j a d=> ?_;have y:=h.f _ (getElem_mem d);obtain⟨q,J,I,o,i⟩:=AL y.2.2.2;have H:(iW g).t1[j]=uO g (nu g) (nW g) j g.fs[j]:=by show(cB g (nu g) (nW g))[j]'(by simpa[cB]using d)= _;simp[cB]
 have G:=Aq v (P8 d);have n:=vK w (TI d);have F:cM (kZ g.fs[j].ty)=6::hU g.fs[j].ty:=by unfold kZ;rw[if_pos i];rfl
 rw[F]at n;have E:eW (g.fs.map (·.owner)) j=g.fs[j].owner:=by simp[eW,getD_eq_getElem?_getD,d]
 rw[H,Nat.zero_add,jG];unfold Aw uO;simp only[E];simp only[eW,getD_cons_zero,getD_cons_succ,G,n,cL,Nv i q,b9,fP,o];have d1:decide ((if g.fs[j].stat=true then(1:Int)else 0)≤1)=true:=by rw[decide_eq_true_eq];split<;>omega
 have d2:decide ((if g.fs[j].stat=true then(1:Int)else 0)=1)=g.fs[j].stat:=by cases g.fs[j].stat<;>rfl
 rw[d1,d2];rfl
def DU (h:zD g) (I:∀m∈g.ms,∀x∈m.code,Cd.dr x) (G:(bJ (mA g)).2.2=0) (H:(bU (dT g)).2.2=0):iK (iW g) (dx g).sp (dx g).lo= .ok (g.ms.map EJ):=by
 unfold iK;have h0:(decide ((iW g).t2= [])||decide (0<(iW g).t0.length))=true:=by
  rw[Bool.or_eq_true,decide_eq_true_eq,decide_eq_true_eq,jG];by_cases hf:g.ms.length=0
  ·left;rw[←length_eq_zero_iff,vU];exact hf
  ·right;have:=(h.m _ (getElem_mem (show 0<g.ms.length by omega))).2.1;have:=(h.m _ (getElem_mem (show 0<g.ms.length by omega))).1;omega
 rw[h0,m9];have v:=Jj (g:=g) 4 (g.ms.map (·.owner)) h.mo (fun x F=>by obtain⟨f,hf,rfl⟩:=mem_map.1 F;have:=h.m f hf;exact⟨this.1,this.2.1⟩) (fun j a=>by simp only[eW,qY,getD_cons_zero,getD_cons_succ]);rw[length_map]at v;rw[vU,v,cL];have key:∀(j:Nat) (a:j<(iW g).t2.length) (b:j<(g.ms.map EJ).length),wX (iW g) (dx g).sp (dx g).lo (g.ms.map (·.owner)) (0+j) (iW g).t2[j]= .ok (g.ms.map EJ)[j]:=by
  intro j a b;have d:j<g.ms.length:=by simpa using b
  have i:=(h.m _ (getElem_mem d)).2.2;obtain⟨s1,s2⟩:=Md d;have hl:=(vX h g.ms.length).1;rw[←Fo]at hl;have y:=IX s2 (by omega) i (I _ (getElem_mem d)) j;obtain⟨u,E,q⟩:=IW s2;generalize (qs (sY g j) g.ms[j]).2=p at s1 y u E q;have Q:(iW g).t2[j]=rZ g (nu g) (nW g) j (g.ms[j],p):=by
   have o:j<(dC nZ g.ms).2.length:=by rw[dK];exact d
   have l:(dC nZ g.ms).2[j]=p:=by rw[getElem?_eq_getElem o]at s1;exact Option.some.inj s1
   show(cI g (nu g) (nW g))[j]'(by simpa[cI,dK]using d)= _;simp[cI,l]
  have P:=Aq G (P6 d);have w:=vK H (TG d);have ha:cx g.ms[j].ret=true∧eo g.ms[j].ret g.ts.length=true:=by have:=i.ret;unfold xQ at this;rwa [Bool.and_eq_true]at this
  have l:∀t∈g.ms[j].ps,aZ t=true:=fun t ht=>(vC (i.pA t ht)).1;have O:cM (gY (Dv g.ms[j]))=Sg.Dw (Dv g.ms[j]):=by unfold gY;rw[if_neg (by have:=i.ps;simp only[Dv];omega),if_pos (by rw[Bool.and_eq_true,all_eq_true];exact⟨l,ha.1⟩)];rfl
  rw[O]at w;have L:dy (Sg.Dw (Dv g.ms[j]))= .ok (Dv g.ms[j]):=Sg.Pk i.ps l ha.1;have M:eW (g.ms.map (·.owner)) j=g.ms[j].owner:=by simp[eW,getD_eq_getElem?_getD,d]
  have K:kM (g.ts.length:Int) j (g.ms[j].ps++ [g.ms[j].ret])= .ok ():=FQ fun t ht=>by
   rcases mem_append.1 ht with ht|ht
   ·exact(vC (i.pA t ht)).2
   ·rw[mem_singleton.1 ht];exact ha.2
  have J:(iW g).C=(dx g).co:=rfl;rw[Q,Nat.zero_add];unfold wX rZ;simp only[M];simp only[eW,getD_cons_zero,getD_cons_succ,P,w,cL,L,b9,iX,jG,vV,vU,J,y,u];have d1:(decide (g.ms[j].flags≤31)&&decide (g.ms[j].max≤12))=true:=by rw[Bool.and_eq_true,decide_eq_true_eq,decide_eq_true_eq];exact⟨i.fl.2,i.mx.2⟩
  have d2:((Dv g.ms[j]).this==decide (g.ms[j].flags%2=0))=true:=by simp[Dv]
  have d3:decide (p.2≤((dx g).lo.length:Int))=true:=by rw[decide_eq_true_eq];exact q
  have d4:(Dv g.ms[j]).ps=g.ms[j].ps:=rfl;have d5:(Dv g.ms[j]).ret=g.ms[j].ret:=rfl;rw[d1,d2,d3,d4,d5,K];simp only[cL,m9,decide_true,getElem_map,EJ,SW]
 have n:(iW g).t2.length=(g.ms.map EJ).length:=by rw[vU];simp
 exact J6 _ _ n key
def QG {e:LE}(h0:e.t0.length≤32) (h1:e.t1.length≤64) (o:e.t2.length≤64) (l:e.t3.length≤128) (j:e.t4.length≤16383) (i:e.t5.length≤64):nK 0 (u0 e)= .ok ():=by
 simp only[u0,nK];have d:∀ {n:Nat} {m:Int},(n:Int)≤m→decide ((n:Int)≤m)=true:=fun h=>by rw[decide_eq_true_eq];exact h
 rw[d (by omega),d (by omega),d (by omega),d (by omega),d (by omega),d (by omega)];rfl
def Py (h:zD g) (j:sM g) (l:∀m∈g.ms,∀x∈m.code,Cd.dr x) (i:(bJ (mA g)).2.2=0) (d:(bU (dT g)).2.2=0):pN (iW g)= .ok (pZ g):=by
 have hl:=vX h g.ms.length;rw[←Fo]at hl;have n:(iW g).t3.length≤128:=by have h1:=tZ j g.ts.length;have o:(df g).take g.ts.length=df g:=take_of_length_le (by simp[df]);rw[o]at h1;have:=h.ts;show((df g).flatten).length≤128;omega
 unfold pN oE;rw[QG (by rw[jG];exact h.ts) (by rw[vV];exact h.fs) (by rw[vU];exact h.ms) n (by rw[IU];omega) (by rw[IT];exact hl.2)];simp only[cL,Ji h d,Mr h d,Jh h i,GX h i d,DU h l i d];have he:(iW g).en=g.entry+1:=rfl;have:=h.en;rw[he,if_neg (by simp;omega)];simp only[pZ,SW,show g.entry+1-1=g.entry by omega];simp
def Hw (v:Gi g=true) (u:sM g) (y:∀m∈g.ms,∀x∈m.code,Cd.dr x) (d:(cT g).2=0):pa (cT g).1= .ok (pZ g):=by
 have h:=qD.1 v;unfold cT at d⊢;rw[if_neg (by rw[v];simp)]at d⊢;by_cases i:(bJ (mA g)).2.2=0;rotate_left
 ·rw[if_pos i]at d;exact absurd d i
 rw[if_neg (by rw[i];simp)]at d⊢;by_cases j:(bU (dT g)).2.2=0;rotate_left
 ·rw[if_pos j]at d;exact absurd d j
 rw[if_neg (by rw[j];simp)]at d⊢;by_cases hw:Rw.okW (kp g (nu g) (nW g)) (g.entry+1)=false
 ·rw[if_pos hw]at d;simp at d
 rw[if_neg hw]at d⊢;unfold uH at d⊢;split at d
 ·simp at d
 rename_i q;rw[if_neg q];simp only[not_or]at q;obtain⟨G,F,j2,j3,j4⟩:=q;have n:=St.DL (s:=fun k=>St.iN (Rw.dd (kp g (nu g) (nW g)) (g.entry+1)) (bJ (mA g)).1 (bU (dT g)).1 (dx g).co k) (fun k w=>by
  match k,w with
  |0,_ =>simp only[St.iN];omega
  |1,_ =>simp only[St.iN];omega
  |2,_ =>simp only[St.iN];omega
  |3,_ =>simp only[St.iN];omega) (by omega)
 have o:=Rw.D2 (R:=kp g (nu g) (nW g)) (en:=g.entry+1) (py g _ _) (by simpa using hw) (fun l hl=>by have:=vT u (nu g) (nW g) l hl;omega);unfold pa;rw[n];simp only;rw[if_neg (by simp)];have E:(zT (St.MV fun k=>St.iN (Rw.dd (kp g (nu g) (nW g)) (g.entry+1)) (bJ (mA g)).1 (bU (dT g)).1 (dx g).co k) 0).1=Rw.dd (kp g (nu g) (nW g)) (g.entry+1):=rfl;rw[E,o];exact Py h u y i j
open Rg (Cl b7 bz dA)
open Cd (oO dz eY eH mY gb ph RI cV bZ dN)
open Bd (R6 eh)
open Sg (fP b9 mX iX eT fR nh dy)
def KI {b:zY}(h:b9 (eT b)=0):∃t,eT b= .ok t:=by
 cases d:eT b with
 |ok x=>exact⟨x,rfl⟩
 |error e=>rw[d]at h;exact absurd h (Sg.xi d)
def Kf {b:zY}(h:b9 (fR b)=0):∃t,fR b= .ok t:=by
 cases d:fR b with
 |ok x=>exact⟨x,rfl⟩
 |error e=>rw[d]at h;exact absurd h (Sg.Kg d)
def KK {b:zY}(h:b9 (nh b)=0):∃t,nh b= .ok t∧bO t=true:=by
 unfold nh at h⊢;cases b with
 |nil=>simp[b9]at h
 |cons c r=>
  simp only at h⊢;split at h
  ·rename_i i;rw[if_pos i];cases d:eT r with
   |error e=>rw[d]at h;exact absurd h (Sg.xi d)
   |ok t=>
    rw[d]at h;simp only at h⊢;split at h
    ·rename_i h1;rw[if_pos h1];exact⟨t,rfl,h1⟩
    ·simp[b9]at h
  ·simp[b9]at h
def I2 {b:zY}{nt:Int}(h:Ir (eT b)=0) (i:eo (fP (eT b)) nt=true):iR (fP (eT b)) nt=true:=by
 have h0:b9 (eT b)=0:=by
  unfold Ir at h;split at h
  ·simp at h
  ·exact h
 obtain⟨t,ht⟩:=KI h0;rw[ht]at h i⊢;simp only[fP]at i⊢;have l:=(Sg.MH ht).1;unfold Ir at h;split at h
 ·simp at h
 rename_i n;have d:¬(t.ref=true∨t.kind=1):=fun e=>n ⟨rfl,e⟩;unfold iR bO aZ;rw[l,i];have h1:t.ref=false:=by cases j:t.ref with|true=>exact absurd (.inl j) d|false=>rfl
 have o:¬t.kind=1:=fun e=>d (.inr e);simp[h1,o]
def tG {N:zY}{a:Int}{s:zY}(h:kO N a= .ok s):bD s=true:=by
 unfold kO at h;split at h
 ·rename_i h0;cases h;unfold Pl.jc at h0⊢;split at h0
  ·simp at h0
  rename_i h1;rw[if_neg h1];split at h0
  ·simp at h0
  ·rename_i n i;split at h0
   ·rename_i d;rw[if_pos d];exact d
   ·simp at h0
 ·cases h
def wa {b:zY}{nt:Int} :∀ {rs:List (List Int)}{acc:List Ty}{i:Nat}{out:List Ty},eK b nt acc i rs= .ok out→(∀t∈acc,iR t nt=true)→ ∀t∈out,iR t nt=true
 |[],acc,i,out,h,ha=>by simp only[eK]at h;cases h;exact ha
 |r::rs,acc,i,out,h,ha=>by
  simp only[eK]at h;rcases aG h with⟨x,_,h⟩|⟨f,_,h⟩;rotate_left
  ·cases h
  rcases aw h with⟨h1,h⟩|⟨_,h⟩;rotate_left
  ·cases h
  rcases aw h with⟨j,h⟩|⟨_,h⟩;rotate_left
  ·cases h
  refine wa h fun y d=> ?_;rcases mem_append.1 d with d|d
  ·exact ha y d
  ·rw[mem_singleton.1 d];exact I2 (by simpa using h1) j
def Cb {nt:Int}{i:Nat} :∀ {l:List Ty}{u:Unit},kN nt i l= .ok u→ ∀t∈l,eo t nt=true
 |[],_,_ =>by simp
 |t::r,u,h=>by
  simp only[kN]at h;rcases aw h with⟨h1,h⟩|⟨_,h⟩;rotate_left
  ·cases h
  intro y d;rcases mem_cons.1 d with rfl|d
  ·exact h1
  ·exact Cb h y d
def Ca {nt:Int}{i:Nat} :∀ {l:List Ty}{u:Unit},kM nt i l= .ok u→ ∀t∈l,eo t nt=true
 |[],_,_ =>by simp
 |t::r,u,h=>by
  simp only[kM]at h;rcases aw h with⟨h1,h⟩|⟨_,h⟩;rotate_left
  ·cases h
  intro y d;rcases mem_cons.1 d with rfl|d
  ·exact h1
  ·exact Ca h y d
def y6 {b:zY}{nt:Int} :∀ {rs:List (List Int)}{acc:List (List Ty)}{i:Nat}{out:List (List Ty)},gZ b nt acc i rs= .ok out→(∀l∈acc,l.length≤12∧ ∀t∈l,iQ t nt=true)→ ∀l∈out,l.length≤12∧ ∀t∈l,iQ t nt=true
 |[],acc,i,out,h,ha=>by simp only[gZ]at h;cases h;exact ha
 |r::rs,acc,i,out,h,ha=>by
  simp only[gZ]at h;rcases aG h with⟨x,_,h⟩|⟨f,_,h⟩;rotate_left
  ·cases h
  rcases aw h with⟨h1,h⟩|⟨_,h⟩;rotate_left
  ·cases h
  rcases aG h with⟨u,j,h⟩|⟨_,_,h⟩;rotate_left
  ·cases h
  refine y6 h fun y d=> ?_;rcases mem_append.1 d with d|d
  ·exact ha y d
  ·rw[mem_singleton.1 d];obtain⟨l,hl⟩:=Kf (b:=x) (by simpa using h1);rw[hl]at j⊢;obtain⟨g1,g2,_⟩:=Sg.QQ hl;refine⟨g1,fun t ht=> ?_⟩;unfold iQ;rw[g2 t ht,Cb j t ht];rfl
def BD {N:zY}{n:Nat} :∀ {rs:List (List Int)}{acc:List TD}{i:Nat}{out:List TD},jE N n acc i rs= .ok out→(∀r∈rs,0≤eW r 0)→(∀t∈acc,QV t n∧t.bg= []∧t.fn=true)→ ∀t∈out,QV t n∧t.bg= []∧t.fn=true
 |[],acc,i,out,h,_,ha=>by simp only[jE]at h;cases h;exact ha
 |r::rs,acc,i,out,h,j,ha=>by
  simp only[jE]at h;rcases aG h with⟨x,h1,h⟩|⟨f,_,h⟩;rotate_left
  ·cases h
  refine BD h (fun y d=>j y (mem_cons_of_mem _ d)) fun y d=> ?_;rcases mem_append.1 d with d|d
  ·exact ha y d
  ·rw[mem_singleton.1 d];unfold Hx at h1;rcases aG h1 with⟨nm,o,h1⟩|⟨f,_,h1⟩;rotate_left
   ·cases h1
   rcases aw h1 with⟨l,h1⟩|⟨_,h1⟩;rotate_left
   ·cases h1
   rcases aw h1 with⟨q,h1⟩|⟨_,h1⟩;rotate_left
   ·cases h1
   cases h1;simp only[decide_eq_true_eq]at l q;have u:=sC (eW r 2);exact⟨⟨tG o,⟨j r (mem_cons_self ..),l⟩,by simp only;omega,by simp,by simp⟩,rfl,rfl⟩
def xq {n:Nat} :∀ {rs:List (List Int)}{acc:List TD}{i:Nat}{out:List TD},dk n acc i rs= .ok out→(∀t∈acc,QV t n∧t.fn=t.bg.isEmpty)→ ∀t∈out,QV t n∧t.fn=t.bg.isEmpty
 |[],acc,i,out,h,ha=>by simp only[dk]at h;cases h;exact ha
 |r::rs,acc,i,out,h,ha=>by
  simp only[dk]at h;rcases aw h with⟨h1,h⟩|⟨_,h⟩;rotate_left
  ·cases h
  split at h
  ·cases h
  ·rename_i t ht;rcases aw h with⟨l,h⟩|⟨_,h⟩;rotate_left
   ·cases h
   simp only[decide_eq_true_eq]at h1 l;refine xq h fun y j=> ?_;rcases mem_or_eq_of_mem_set j with j|rfl
   ·exact ha y j
   ·obtain⟨g1,g2⟩:=ha t (mem_of_getElem? ht);refine⟨⟨g1.name,g1.fl,g1.ext,by simp only[mJ,length_append,length_cons,length_nil];omega,fun x d=> ?_⟩,by simp[mJ]⟩;rcases mem_append.1 d with d|d
    ·exact g1.fc x d
    ·rw[mem_singleton.1 d];omega
def wN {c:Nat}{n nt:Nat} :∀ {rs:List (List Int)}{acc:List Int}{last:Int}{i:Nat}{out:List Int},eu c n nt acc last i rs= .ok out→i+rs.length=nt→(i=0→last=1)→(n=0∨0<nt)→(acc.length:Int)+1=last→
 (acc.Pairwise (· ≤ ·))→(∀x∈acc,0≤x∧x≤(i:Int)-2)→(out.Pairwise (· ≤ ·))∧ ∀x∈out,0≤x∧x<(nt:Int)
 |[],acc,last,i,out,h,q,h0,u,hl,o,j=>by
  simp only[eu]at h;cases h;obtain rfl:i=nt:=by simpa using q
  refine⟨pairwise_append.2 ⟨o,pairwise_replicate.2 (.inr (Int.le_refl _)),fun x d y l=> ?_⟩,fun x d=> ?_⟩
  ·rw[eq_of_mem_replicate l];have:=j x d;omega
  ·rcases mem_append.1 d with d|d
   ·have:=j x d;omega
   ·have h1:=eq_of_mem_replicate d;have v:((n:Int)+1-last).toNat≠0:=fun e=>by rw[e]at d;simp at d
    rw[h1];by_cases e:i=0
    ·have:=h0 e;omega
    ·omega
 |r::rs,acc,last,i,out,h,q,h0,u,hl,o,j=>by
  simp only[eu]at h;rcases aw h with⟨h1,h⟩|⟨_,h⟩;rotate_left
  ·cases h
  simp only[decide_eq_true_eq]at h1;refine wN h (by simp at q;omega) (by omega) u (by simp only[length_append,length_replicate];omega) (pairwise_append.2 ⟨o,pairwise_replicate.2 (.inr (Int.le_refl _)),fun x d y l=> ?_⟩) fun x d=> ?_
  ·rw[eq_of_mem_replicate l];have:=j x d;omega
  ·rcases mem_append.1 d with d|d
   ·have:=j x d;omega
   ·have v:=eq_of_mem_replicate d;have w:(eW r c-last).toNat≠0:=fun e=>by rw[e]at d;simp at d
    rw[v];by_cases e:i=0
    ·have:=h0 e;omega
    ·omega
def Vh {v:Int}(h0:0≤v) (h1:v<18446744073709551616): -9223372036854775808≤Cd.yb 8 v∧Cd.yb 8 v<9223372036854775808:=by unfold Cd.yb;rw[Cd.Af];split<;>omega
def MX {b:zY}{a:Nat}{x:cE}{t:Int}{G:Nat}(h:mY b a= .ok (x,t,G)):Cd.dr x:=by
 have o:dN x=true∧ ∃op,x=⟨op,Cd.dZ (oO op) (aY (cu b (a+1:Nat) (Cd.cK (oO op)).toNat)),dz⟩∧a+1+(Cd.cK (oO op)).toNat≤b.length:=by
  unfold mY at h;split at h
  ·cases h
  split at h
  ·cases h
  split at h
  ·rename_i I u;cases h;exact⟨u,_,rfl,by omega⟩
  ·cases h
 obtain⟨q,op,rfl,hl⟩:=o;have i:=Cd.kg q;have H:=Cd.ja op;simp only at i;unfold Cd.dr;simp only;by_cases v:oO op=2
 ·rw[v]at hl⊢;have d:=ry (b:=b) (a:=a+1) (n:=8) (by simpa[Cd.cK]using hl);have e:(Cd.cK 2).toNat=8:=by decide
  rw[e];rw[Cd.Af]at d;have:=Vh d.1 d.2;simpa[Cd.dZ]using this
 ·obtain⟨_,_,_,F,E,l,y,j,w⟩:=i;have:oO op=0∨oO op=1∨oO op=3∨oO op=4∨oO op=5∨oO op=6∨oO op=7∨oO op=8:=by omega
  rcases this with e|e|e|e|e|e|e|e
  ·have:=F e;omega
  ·have:=E e;omega
  ·have:=l (.inl e);omega
  ·have:=l (.inr e);omega
  ·have:=y e;omega
  ·have:=j (.inl e);omega
  ·have:=j (.inr e);omega
  ·have:=w e;omega
def C4 {b:zY} :∀ {k a:Nat}{r:List RI},eH b k a= .ok r→ ∀y∈r,Cd.dr y.x
 |0,a,r,h=>by
  rw[eH]at h;split at h
  ·cases h
  ·cases h;simp
 |k+1,a,r,h=>by
  rw[eH]at h;split at h
  ·cases h1:mY b a with
   |error e=>rw[h1]at h;cases h
   |ok z=>
    obtain⟨x,t,j⟩:=z;rw[h1]at h;simp only at h;cases i:eH b k j with
    |error e=>rw[i]at h;cases h
    |ok s=>
     rw[i]at h;cases h;intro y d;rcases mem_cons.1 d with rfl|d
     ·exact MX h1
     ·exact C4 i y d
  ·cases h;simp
def BV {L:List Int}(n:L.length≤1000):∀ {r:List RI}{l:List cE},gb L r= .ok l→(∀y∈r,Cd.dr y.x)→ ∀x∈l,Cd.dr x
 |[],l,h,_ =>by rw[gb]at h;cases h;simp
 |y::s,l,h,hf=>by
  rw[gb]at h;cases h1:ph L y with
  |error e=>rw[h1]at h;cases h
  |ok x=>
   rw[h1]at h;simp only at h;cases i:gb L s with
   |error e=>rw[i]at h;cases h
   |ok t=>
    rw[i]at h;cases h;intro z d;rcases mem_cons.1 d with rfl|d
    ·unfold ph at h1;split at h1
     ·split at h1
      ·cases h1
      ·rename_i k j;cases h1;have:=(findIdx?_eq_some_iff_getElem.1 j).1;unfold Cd.dr;simp only;omega
     ·cases h1;exact hf y (mem_cons_self ..)
    ·exact BV n i (fun w hw=>hf w (mem_cons_of_mem _ hw)) z d
def HU {b:zY}(h:(eY b).2.2=0):(eY b).1.1.length≤160∧(∀x∈(eY b).1.1,dN x=true∧(oO x.op=5→x.arg<(eY b).1.1.length))∧ ∀x∈(eY b).1.1,Cd.dr x:=by
 have he:=Cd.NH h;have h1:(cV (eY b).1.1).2=0:=by rw[he]
 have n:(bZ (eY b).1.1).2=0:=by
  unfold cV at h1;split at h1
  ·assumption
  ·rename_i q;exact absurd h1 q
 obtain⟨u,o,_⟩:=Cd.ru n;refine⟨u,fun x j=>⟨by rw[all_eq_true]at o;exact o x j,fun e=> ?_⟩,?_⟩
 ·unfold cV at h1;rw[if_pos n]at h1;split at h1
  ·simp at h1
  ·rename_i hf;simp only[any_eq_true,not_exists,not_and]at hf;have:=hf x j;simpa[Cd.kB,e]using this
 ·unfold eY at h⊢;cases d:eH b 160 0 with
  |error e=>rw[d]at h;exact absurd h (xB d)
  |ok r=>
   rw[d]at h;simp only at h⊢;cases i:gb (r.map (·.a)) r with
   |error e=>rw[i]at h;exact absurd h (wA i)
   |ok l=>simp only;exact BV (by have:=(xA d).1;simp;omega) i (C4 d)
def Js {x:cE}(h:dN x=true) (d:¬oO x.op=8):¬(x.op<1∨75<x.op)∧gP x (oO x.op)=true:=by
 unfold dN at h;split at h
 ·cases h
 ·rename_i h0;first|exact⟨h0,h⟩|(rw[if_neg d]at h;exact⟨h0,h⟩)
def Gg {x:cE}{nt nf nm n:Int}(h0:¬(x.op<1∨75<x.op)) (h1:gP x (oO x.op)=true) (j:oO x.op=5→x.arg<n) (i:oO x.op=6→x.arg<nm) (h:oO x.op=7→x.arg<nf)
 (d:¬oO x.op=5→ ¬oO x.op=6→ ¬oO x.op=7→eo x.t nt=true):cS x nt nf nm n=true:=by
 have hf:jF x=0:=by unfold jF;rw[if_neg h0];exact if_pos h1
 unfold cS;rw[hf];change (true&&(if oO x.op=5 then decide (x.arg<n)else if oO x.op=6 then decide (x.arg<nm)else if oO x.op=7 then decide (x.arg<nf)else eo x.t nt))=true;split
 ·simp[j (by assumption)]
 split
 ·simp[i (by assumption)]
 split
 ·simp[h (by assumption)]
 ·simp[d (by assumption) (by assumption) (by assumption)]
def PW (nt:Int):eo dz nt=true:=by simp[eo,dz]
def Hz {S:List Ty}{nt nf nm:Nat}{i n:Nat}{x y:cE}(E:∀t∈S,iR t nt=true) (h:uZ S nm nf i x= .ok y) (o:dN x=true) (F:oO x.op=5→x.arg<n) (hf:Cd.dr x):cS y nt nf nm n=true∧Cd.dr y:=by
 unfold uZ at h;have w:=Cd.kg o;split at h
 ·rename_i l;unfold jP at h;rw[fO]at h;rcases aw h with⟨c,h⟩|⟨_,h⟩;rotate_left
  ·cases h
  simp only[decide_eq_true_eq]at c;simp only[cL]at h;cases h;have d:(x.arg-1).toNat<S.length:=by omega
  have hm:S.getD (x.arg-1).toNat dz∈S:=by rw[getD_eq_getElem?_getD,getElem?_eq_getElem d];exact getElem_mem d
  have q:=E _ hm;generalize S.getD (x.arg-1).toNat dz=t at q;have j:=AL q;refine⟨Gg (by simp only;omega) ?_ (fun e=> ?_) (fun e=> ?_) (fun e=> ?_) fun _ _ _ =>j.2.2.2.1,by unfold Cd.dr;simp only;omega⟩
  ·simp only[l];unfold gP;simp[j.2.2.2.2]
  all_goals (simp only at e;omega)
 ·rename_i l;rcases aw h with⟨c,h⟩|⟨_,h⟩;rotate_left
  ·cases h
  cases h;obtain⟨v,u⟩:=Js o l;rw[Bool.or_eq_true,decide_eq_true_eq,decide_eq_true_eq]at c;refine⟨Gg v u F (fun e=> ?_) (fun e=> ?_) (fun _ _ _ =>by rw[w.2.2.1];exact PW _),hf⟩
  ·rcases c with c|c
   ·omega
   ·unfold o9 at c;rw[if_pos e]at c;exact c
  ·rcases c with c|c
   ·omega
   ·unfold o9 at c;rw[if_neg (by omega),if_pos e]at c;exact c
def xb {S:List Ty}{nt nf nm:Nat}{i n:Nat}(o:∀t∈S,iR t nt=true):∀ {l acc out:List cE},lO S nm nf i acc l= .ok out→(∀x∈l,dN x=true∧(oO x.op=5→x.arg<n)∧Cd.dr x)→
 (∀y∈acc,cS y nt nf nm n=true∧Cd.dr y)→out.length=acc.length+l.length∧ ∀y∈out,cS y nt nf nm n=true∧Cd.dr y
 |[],acc,out,h,_,ha=>by simp only[lO]at h;cases h;exact⟨by simp,ha⟩
 |x::l,acc,out,h,hl,ha=>by
  simp only[lO]at h;rcases aG h with⟨y,h1,h⟩|⟨f,_,h⟩;rotate_left
  ·cases h
  have j:=hl x (mem_cons_self ..);have:=xb o h (fun z d=>hl z (mem_cons_of_mem _ d)) (fun z d=>by
   rcases mem_append.1 d with d|d
   ·exact ha z d
   ·rw[mem_singleton.1 d];exact Hz o h1 j.1 j.2.1 j.2.2)
  exact⟨by rw[this.1];simp;omega,this.2⟩
def pH {α β:Type}{x:Option α}{f:α→Option β}{y:β}(h:rv x f=some y):∃a,x=some a∧f a=some y:=by
 cases x with
 |none=>cases h
 |some a=>exact⟨a,rfl,h⟩
def Aa {P:List Int}{r:R6}{c:Cl}(h:eQ P r=some c):c.a=0∧c.b=0∧c.c=0∧c.r=false:=by
 unfold eQ at h;split at h
 ·cases h
 split at h
 ·cases h
 obtain⟨_,_,h⟩:=pH h;obtain⟨_,_,h⟩:=pH h;obtain⟨_,_,h⟩:=pH h;obtain⟨_,_,h⟩:=pH h;split at h
 ·obtain⟨_,_,h⟩:=pH h;split at h
  ·cases h;exact⟨rfl,rfl,rfl,rfl⟩
  ·cases h
 ·cases h;exact⟨rfl,rfl,rfl,rfl⟩
def HB {S:List Ty}{P:List Int}{nt:Nat}{i:Nat}{r:R6}{c:Cl}(w:∀t∈S,iR t nt=true) (h:CA S P i r= .ok c):uh c nt=true:=by
 unfold CA at h;split at h
 ·cases h
 rename_i c0 v;obtain⟨u,o,n,l⟩:=Aa v;split at h
 ·rename_i k1;unfold jP at h;rw[fO]at h;rcases aw h with⟨q,h⟩|⟨_,h⟩;rotate_left
  ·cases h
  simp only[decide_eq_true_eq]at q;simp only[cL]at h;cases h;have d:(r.ex-1).toNat<S.length:=by omega
  have hm:S.getD (r.ex-1).toNat dz∈S:=by rw[getD_eq_getElem?_getD,getElem?_eq_getElem d];exact getElem_mem d
  unfold uh;rw[if_pos k1];exact w _ hm
 ·rename_i k1;have j:uh c0 nt=true:=by unfold uh;rw[if_neg k1,u,o,n,l];rfl
  split at h
  ·rcases aw h with⟨_,h⟩|⟨_,h⟩
   ·cases h;exact j
   ·cases h
  ·cases h;exact j
def xc {S:List Ty}{P:List Int}{nt:Nat}{i:Nat}(j:∀t∈S,iR t nt=true):∀ {l:List R6}{acc out:List Cl},kU S P i acc l= .ok out→(∀y∈acc,uh y nt=true)→ ∀y∈out,uh y nt=true
 |[],acc,out,h,ha=>by simp only[kU]at h;cases h;exact ha
 |x::l,acc,out,h,ha=>by
  simp only[kU]at h;rcases aG h with⟨y,h1,h⟩|⟨f,_,h⟩;rotate_left
  ·cases h
  refine xc j h fun z d=> ?_;rcases mem_append.1 d with d|d
  ·exact ha z d
  ·rw[mem_singleton.1 d];exact HB j h1
def Cy {C:zY}{S:List Ty}{nt nf nm:Nat}{d:Int}{i:Nat}{v:List cE×List Cl}(q:∀t∈S,iR t nt=true) (h:lQ C S nm nf d i= .ok v):
 v.1.length≤160∧(∀y∈v.1,cS y nt nf nm v.1.length=true∧Cd.dr y)∧(∀y∈v.2,uh y nt=true)∧(b7 (bz v.1.length) dA v.2).2=0:=by
 unfold lQ at h;split at h
 ·cases h
 rcases aw h with⟨h1,h⟩|⟨_,h⟩;rotate_left
 ·cases h
 rcases aG h with⟨l,E,h⟩|⟨f,_,h⟩;rotate_left
 ·cases h
 unfold vF at h;rcases aG h with⟨cs,w,h⟩|⟨f,_,h⟩;rotate_left
 ·cases h
 rcases aw h with⟨u,h⟩|⟨_,h⟩;rotate_left
 ·cases h
 cases h;obtain⟨d1,d2,d3⟩:=HU (by simpa using h1);have j:=xb (n:=(eY (eh C d).1.1).1.1.length) q E (fun x o=>⟨(d2 x o).1,(d2 x o).2,d3 x o⟩) (by simp);simp only[length_nil,Nat.zero_add]at j;refine⟨by rw[j.1];exact d1,?_,xc q w (by simp),by simpa using u⟩;rw[j.1];exact j.2
open Rg (Cl b7 bz dA)
open Cd (oO dz eY)
open Bd (R6 eh)
open Sg (fP b9 mX iX eT fR nh dy)
def NC {N B:zY}{nt:Int}{d:List Int}{rows:List (List Int)}{out:List Fd}(h:lP N B nt d [] 0 rows= .ok out):rows.length=out.length∧ ∀j (a:j<rows.length) (b:j<out.length),Aw N B nt d j rows[j]= .ok out[j]:=by
 obtain⟨o,h1,l,i⟩:=wq (F:=lP N B nt d) (step:=Aw N B nt d) (fun _ _ =>rfl) (fun _ _ _ _ =>rfl) rows [] out 0 h;obtain rfl:out=o:=by simpa using h1
 exact⟨l,fun j a b=>by have:=i j a b;rwa [Nat.zero_add]at this⟩
def M7 {e:LE}{sp:List Ty}{lo:List (List Ty)}{d:List Int}{rows:List (List Int)}{out:List Mt}(h:kx e sp lo d [] 0 rows= .ok out):rows.length=out.length∧ ∀j (a:j<rows.length) (b:j<out.length),wX e sp lo d j rows[j]= .ok out[j]:=by
 obtain⟨o,h1,l,i⟩:=wq (F:=kx e sp lo d) (step:=wX e sp lo d) (fun _ _ =>rfl) (fun _ _ _ _ =>rfl) rows [] out 0 h;obtain rfl:out=o:=by simpa using h1
 exact⟨l,fun j a b=>by have:=i j a b;rwa [Nat.zero_add]at this⟩
def y8 {N B:zY}{nt:Int}{j:List Int}{i:Nat}{r:List Int}{f:Fd}(h:Aw N B nt j i r= .ok f):bD f.name=true∧f.owner=eW j i∧iR f.ty nt=true:=by
 unfold Aw at h;rcases aw h with⟨_,h⟩|⟨_,h⟩;rotate_left
 ·cases h
 rcases aG h with⟨nm,l,h⟩|⟨f,_,h⟩;rotate_left
 ·cases h
 rcases aG h with⟨b,n,h⟩|⟨f,_,h⟩;rotate_left
 ·cases h
 rcases aw h with⟨h1,h⟩|⟨_,h⟩;rotate_left
 ·cases h
 rcases aw h with⟨d,h⟩|⟨_,h⟩;rotate_left
 ·cases h
 cases h;obtain⟨t,ht,hf⟩:=KK (b:=b) (by simpa using h1);refine⟨tG l,rfl,?_⟩;rw[ht]at d⊢;simp only[fP]at d⊢;unfold iR;rw[hf,d];rfl
def Pj {b:zY}(h:b9 (dy b)=0):(iX (dy b)).ps.length≤6∧(∀t∈(iX (dy b)).ps,aZ t=true)∧cx (iX (dy b)).ret=true:=by obtain⟨s,d⟩:=BM h;rw[d];have:=Sg.QP d;exact⟨this.1,this.2.1,this.2.2.1⟩
def Hy {e:LE}{sp:List Ty}{lo:List (List Ty)}{E:List Int}{i:Nat}{r:List Int}{m:Mt}{nt:Nat}(w:e.t0.length=nt) (I:∀t∈sp,iR t nt=true) (J:∀l∈lo,l.length≤12∧ ∀t∈l,iQ t nt=true)
 (h:wX e sp lo E i r= .ok m) (F:0≤eW r 1∧0≤eW r 2):TY m nt e.t1.length e.t2.length∧m.owner=eW E i∧EJ m=m∧ ∀x∈m.code,Cd.dr x:=by
 unfold wX at h;rw[w]at h;rcases aw h with⟨h0,h⟩|⟨_,h⟩;rotate_left
 ·cases h
 rcases aG h with⟨nm,H,h⟩|⟨f,_,h⟩;rotate_left
 ·cases h
 rcases aG h with⟨b,P,h⟩|⟨f,_,h⟩;rotate_left
 ·cases h
 rcases aw h with⟨h1,h⟩|⟨_,h⟩;rotate_left
 ·cases h
 rcases aw h with⟨Q,h⟩|⟨_,h⟩;rotate_left
 ·cases h
 rcases aG h with⟨u,M,h⟩|⟨f,_,h⟩;rotate_left
 ·cases h
 rcases aw h with⟨L,h⟩|⟨_,h⟩;rotate_left
 ·cases h
 rcases aG h with⟨j,q,h⟩|⟨f,_,h⟩;rotate_left
 ·cases h
 cases h;obtain⟨s1,s2,s3⟩:=Pj (b:=b) (by simpa using h1);have G:=Ca M;have o:(wY lo (eW r 5)).length≤12∧ ∀t∈wY lo (eW r 5),iQ t nt=true:=by
  unfold wY;split
  ·rename_i O;have K:eW r 5≤lo.length:=by simpa using L
   have n:(eW r 5-1).toNat<lo.length:=by omega
   rw[getD_eq_getElem?_getD,getElem?_eq_getElem n];exact J _ (getElem_mem n)
  ·simp
 have d:j.1.length≤160∧(∀y∈j.1,cS y nt e.t1.length e.t2.length j.1.length=true∧Cd.dr y)∧(∀y∈j.2,uh y nt=true)∧(b7 (bz j.1.length) dA j.2).2=0:=by
  unfold pO at q;split at q
  ·exact Cy I q
  ·cases q;refine⟨by simp,by simp,by simp,rfl⟩
 rw[Bool.and_eq_true,decide_eq_true_eq,decide_eq_true_eq]at h0;refine⟨⟨tG H,⟨F.1,h0.1⟩,⟨F.2,h0.2⟩,s1,o.1,d.1,?_,fun t ht=> ?_,o.2,fun x v=>(d.2.1 x v).1,d.2.2.1,d.2.2.2⟩,rfl,?_,fun x v=>(d.2.1 x v).2⟩
 ·unfold xQ;rw[s3,G _ (mem_append_right _ (mem_singleton.2 rfl))];rfl
 ·unfold iQ;rw[s2 t ht,G t (mem_append_left _ ht)];rfl
 ·simp only[EJ,SW]
def EM {n:Nat}{T:List (List Int)}(h:nD n T) {r:List Int}(i:r∈T) (c:Nat):0≤eW r c:=by
 unfold eW;rw[getD_eq_getElem?_getD];by_cases d:c<r.length
 ·rw[getElem?_eq_getElem d];exact((h.2 r i).2 _ (getElem_mem d)).1
 ·rw[getElem?_eq_none (by omega)];simp
def F8 {α:Type}{f:α→Int}{l:List α}{d:List Int}(hl:l.length=d.length) (h:∀j (a:j<l.length),f l[j]=eW d j):l.map f=d:=by
 apply ext_getElem (by simpa using hl);intro j a b;have i:j<l.length:=by simpa using a
 rw[getElem_map,h j i,eW,getD_eq_getElem?_getD,getElem?_eq_getElem b];rfl
def Ew {e:LE}(G:U8 e) {g:bY}(h:pN e= .ok g):zD g∧pZ g=g∧ ∀m∈g.ms,∀x∈m.code,Cd.dr x:=by
 unfold pN at h;rcases aG h with⟨u,hC,h⟩|⟨f,_,h⟩;rotate_left
 ·cases h
 rcases aG h with⟨v,d,h⟩|⟨f,_,h⟩;rotate_left
 ·cases h
 rcases aG h with⟨ts,q,h⟩|⟨f,_,h⟩;rotate_left
 ·cases h
 rcases aG h with⟨fs,l,h⟩|⟨f,_,h⟩;rotate_left
 ·cases h
 rcases aG h with⟨ms,i,h⟩|⟨f,_,h⟩;rotate_left
 ·cases h
 split at h
 ·cases h
 rename_i ab;cases h;have ac:=Gu hC;have n:=uB q;unfold oE at d;rcases aG d with⟨sp,h1,d⟩|⟨f,_,d⟩;rotate_left
 ·cases d
 rcases aG d with⟨lo,h2,d⟩|⟨f,_,d⟩;rotate_left
 ·cases d
 cases d;have H:=wa h1 (by simp);have J:=y6 h2 (by simp);have E:∀t∈ts,QV t (e.t0.length:Int)∧t.fn=t.bg.isEmpty:=by
  unfold ki at q;rcases aG q with⟨x,h3,q⟩|⟨f,_,q⟩
  ·have K:=BD h3 (fun r Y=>EM G.t0 Y 0) (by simp);exact xq q fun t ht=>⟨(K t ht).1,by rw[(K t ht).2.1,(K t ht).2.2];rfl⟩
  ·cases q
 unfold ky at l;rcases aw l with⟨f0,l⟩|⟨_,l⟩;rotate_left
 ·cases l
 rcases aG l with⟨L,f1,l⟩|⟨f,_,l⟩;rotate_left
 ·cases l
 obtain⟨f2,f3⟩:=NC l;have fl:=nJ f1 (by simp) (by omega);obtain⟨f4,f5⟩:=wN f1 (by simp) (fun _ =>rfl) (by
  rw[Bool.or_eq_true,decide_eq_true_eq,decide_eq_true_eq]at f0;rcases f0 with f0|f0
  ·left;rw[f0];rfl
  ·right;exact f0) (by simp) (by simp) (by simp)
 have f6:fs.map (·.owner)=L:=F8 (by omega) fun j a=>(y8 (f3 j (by omega) a)).2.1;unfold iK at i;rcases aw i with⟨w,i⟩|⟨_,i⟩;rotate_left
 ·cases i
 rcases aG i with⟨y,O,i⟩|⟨f,_,i⟩;rotate_left
 ·cases i
 obtain⟨X,V⟩:=M7 i;have ml:=nJ O (by simp) (by omega);obtain⟨T,Q⟩:=wN O (by simp) (fun _ =>rfl) (by
  rw[Bool.or_eq_true,decide_eq_true_eq,decide_eq_true_eq]at w;rcases w with w|w
  ·left;rw[w];rfl
  ·right;exact w) (by simp) (by simp) (by simp)
 have F:=fun j (a:j<ms.length)=>Hy rfl H J (V j (by omega) a) ⟨EM G.t2 (getElem_mem _) 1,EM G.t2 (getElem_mem _) 2⟩;have M:ms.map (·.owner)=y:=F8 (by omega) fun j a=>(F j a).2.1;have hn:=G.en;refine⟨⟨by simp only;omega,by simp only;omega,by simp only;omega,fun t ht=> ?_,fun f hf=> ?_,by simp only;rw[f6];exact f4,fun m hm=> ?_,by simp only;rw[M];exact T,by simp only;omega⟩,?_,fun m hm=> ?_⟩
 ·simp only at ht⊢;rw[n];exact(E t ht).1
 ·simp only at hf⊢;obtain⟨j,o,rfl⟩:=getElem_of_mem hf;have P:=y8 (f3 j (by omega) o);have I:fs[j].owner∈L:=by rw[←f6];exact mem_map.2 ⟨_,hf,rfl⟩
  have:=f5 _ I;rw[n];exact⟨this.1,this.2,P.1,P.2.2⟩
 ·simp only at hm⊢;obtain⟨j,o,rfl⟩:=getElem_of_mem hm;have I:ms[j].owner∈y:=by rw[←M];exact mem_map.2 ⟨_,hm,rfl⟩
  have:=Q _ I;rw[n,←f2,←X];exact⟨this.1,this.2,(F j o).1⟩
 ·have e1:ts.map OV=ts:=by
   conv=>rhs;rw[←map_id ts]
   exact map_congr_left fun t ht=>by have:=(E t ht).2;unfold OV;rw[←this];rfl
  have e2:ms.map EJ=ms:=by
   conv=>rhs;rw[←map_id ms]
   exact map_congr_left fun m hm=>by obtain⟨j,o,rfl⟩:=getElem_of_mem hm;exact(F j o).2.2.1
  simp only[pZ,e1,e2,SW]
 ·simp only at hm;obtain⟨j,o,rfl⟩:=getElem_of_mem hm;exact(F j o).2.2.2
def NZ {α:Type}(x:Except gD α):Prop:= ∀f,x= .error f→f.1≠0
def NZ.ok {α:Type}(a:α):NZ (.ok a):=fun f h=>by cases h
def NZ.seq {α β:Type}{x:Except gD α}{k:α→Except gD β}(h1:NZ x) (d:∀a,x= .ok a→NZ (k a)):NZ (cA x k):=fun f h=>by
 rcases aG h with⟨a,ha,h⟩|⟨i,hf,h⟩
 ·exact d a ha f h
 ·cases h;exact h1 _ hf
def NZ.bK {α:Type}{b:Bool}{e t r:Int}{x:Except gD α}(h1:b=false→e≠0) (i:b=true→NZ x):NZ (bK b e t r x):=fun f h=>by
 rcases aw h with⟨d,h⟩|⟨d,h⟩
 ·exact i d f h
 ·cases h;exact h1 d
def An (N:zY) (a:Int):NZ (kO N a):=by
 unfold kO;split
 ·exact NZ.ok _
 ·rename_i h;intro f hf;cases hf;exact h
def vu (N:zY) (a:Int):NZ (iF N a):=by
 unfold iF;split
 ·exact NZ.ok _
 ·rename_i h;intro f hf;cases hf;exact h
def tu {x:Int}(h:decide (x=0)=false):x≠0:=by simpa using h
def Cf (b:zY) (nt:Int):∀(rs:List (List Int)) (acc:List Ty) (i:Nat),NZ (eK b nt acc i rs)
 |[],acc,i=>NZ.ok _
 |r::rs,acc,i=>NZ.seq (vu _ _) fun a _ =>NZ.bK tu fun _ =>NZ.bK (fun _ =>by decide) fun _ =>Cf b nt rs _ _
def FZ (nt:Int) (i:Nat):∀(l:List Ty),NZ (kN nt i l)
 |[]=>NZ.ok _
 |t::r=>NZ.bK (fun _ =>by decide) fun _ =>FZ nt i r
def FY (nt:Int) (i:Nat):∀(l:List Ty),NZ (kM nt i l)
 |[]=>NZ.ok _
 |t::r=>NZ.bK (fun _ =>by decide) fun _ =>FY nt i r
def F1 (b:zY) (nt:Int):∀(rs:List (List Int)) (acc:List (List Ty)) (i:Nat),NZ (gZ b nt acc i rs)
 |[],acc,i=>NZ.ok _
 |r::rs,acc,i=>NZ.seq (vu _ _) fun a _ =>NZ.bK tu fun _ =>NZ.seq (FZ _ _ _) fun _ _ =>F1 b nt rs _ _
def JT (N:zY) (n:Int):∀(rs:List (List Int)) (acc:List TD) (i:Nat),NZ (jE N n acc i rs)
 |[],acc,i=>NZ.ok _
 |r::rs,acc,i=>NZ.seq (NZ.seq (An _ _) fun _ _ =>NZ.bK (fun _ =>by decide) fun _ =>NZ.bK (fun _ =>by decide) fun _ =>NZ.ok _) fun _ _ =>JT N n rs _ _
def Cg (n:Nat):∀(rs:List (List Int)) (acc:List TD) (i:Nat),acc.length=n→NZ (dk n acc i rs)
 |[],acc,i,_ =>NZ.ok _
 |r::rs,acc,i,hl=>by
  unfold dk;refine NZ.bK (fun _ =>by decide) fun h=> ?_;simp only[decide_eq_true_eq]at h;have d:(eW r 0-1).toNat<acc.length:=by omega
  rw[getElem?_eq_getElem d];exact NZ.bK (fun _ =>by decide) fun _ =>Cg n rs _ _ (by simpa using hl)
def Ea (c:Nat) (n nt:Int):∀(rs:List (List Int)) (acc:List Int) (last:Int) (i:Nat),NZ (eu c n nt acc last i rs)
 |[],acc,last,i=>NZ.ok _
 |r::rs,acc,last,i=>NZ.bK (fun _ =>by decide) fun _ =>Ea c n nt rs _ _ _
def JW (N B:zY) (nt:Int) (d:List Int):∀(rs:List (List Int)) (acc:List Fd) (i:Nat),NZ (lP N B nt d acc i rs)
 |[],acc,i=>NZ.ok _
 |r::rs,acc,i=>NZ.seq (NZ.bK (fun _ =>by decide) fun _ =>NZ.seq (An _ _) fun _ _ =>NZ.seq (vu _ _) fun _ _ =>NZ.bK tu fun _ =>NZ.bK (fun _ =>by decide) fun _ =>NZ.ok _) fun _ _ =>JW N B nt d rs _ _
def FX (sp:List Ty) (r i:Int):NZ (jP sp r i):=NZ.bK (fun _ =>by decide) fun _ =>NZ.ok _
def JV (sp:List Ty) (nm nf:Int) (i:Nat):∀(l acc:List cE),NZ (lO sp nm nf i acc l)
 |[],acc=>NZ.ok _
 |x::r,acc=>by
  refine NZ.seq ?_ fun _ _ =>JV sp nm nf i r _;unfold uZ;split
  ·exact NZ.seq (FX _ _ _) fun _ _ =>NZ.ok _
  ·exact NZ.bK (fun _ =>by decide) fun _ =>NZ.ok _
def JY (sp:List Ty) (P:List Int) (i:Nat):∀(l:List R6) (acc:List Cl),NZ (kU sp P i acc l)
 |[],acc=>NZ.ok _
 |x::r,acc=>by
  refine NZ.seq ?_ fun _ _ =>JY sp P i r _;unfold CA;split
  ·intro f hf;cases hf;exact(by decide:(12:Int)≠0)
  ·split
   ·exact NZ.seq (FX _ _ _) fun _ _ =>NZ.ok _
   ·split
    ·exact NZ.bK (fun _ =>by decide) fun _ =>NZ.ok _
    ·exact NZ.ok _
def MZ (C:zY) (sp:List Ty) (nm nf d:Int) (i:Nat):NZ (lQ C sp nm nf d i):=by
 unfold lQ;split
 ·rename_i h;intro f hf;cases hf;exact h
 ·exact NZ.bK tu fun _ =>NZ.seq (JV _ _ _ _ _ _) fun _ _ =>NZ.seq (JY _ _ _ _ _) fun _ _ =>NZ.bK tu fun _ =>NZ.ok _
def SF (e:LE) (sp:List Ty) (lo:List (List Ty)) (d:List Int) (i:Nat) (r:List Int):NZ (wX e sp lo d i r):=
 NZ.bK (fun _ =>by decide) fun _ =>NZ.seq (An _ _) fun _ _ =>NZ.seq (vu _ _) fun _ _ =>NZ.bK tu fun _ =>NZ.bK (fun _ =>by decide) fun _ =>NZ.seq (FY _ _ _) fun _ _ =>NZ.bK (fun _ =>by decide) fun _ =>NZ.seq (by
  unfold pO;split
  ·exact MZ _ _ _ _ _ _
  ·exact NZ.ok _) fun _ _ =>NZ.ok _
def JU (e:LE) (sp:List Ty) (lo:List (List Ty)) (d:List Int):∀(rs:List (List Int)) (acc:List Mt) (i:Nat),NZ (kx e sp lo d acc i rs)
 |[],acc,i=>NZ.ok _
 |r::rs,acc,i=>NZ.seq (SF _ _ _ _ _ _) fun _ _ =>JU e sp lo d rs _ _
def JX:∀(l:List (List (List Int)×Int)) (i:Nat),NZ (nK i l)
 |[],i=>NZ.ok _
 |x::r,i=>NZ.bK (fun _ =>by decide) fun _ =>JX r _
def P3 (e:LE):NZ (pN e):=by
 unfold pN;refine NZ.seq (JX _ _) fun _ _ =>NZ.seq (NZ.seq (Cf _ _ _ _ _) fun _ _ =>NZ.seq (F1 _ _ _ _ _) fun _ _ =>NZ.ok _) fun _ _ =>NZ.seq (NZ.seq (JT _ _ _ _ _) fun ts ht=>Cg _ _ _ _ (by have:=tH ht;simpa using this)) fun _ _ =>
  NZ.seq (NZ.bK (fun _ =>by decide) fun _ =>NZ.seq (Ea _ _ _ _ _ _ _) fun _ _ =>JW _ _ _ _ _ _ _) fun _ _ =>NZ.seq (NZ.bK (fun _ =>by decide) fun _ =>NZ.seq (Ea _ _ _ _ _ _ _) fun _ _ =>JU _ _ _ _ _ _ _) fun _ _ => ?_
 split
 ·intro f hf;cases hf;decide
 ·exact NZ.ok _
def Nc (b:zY):NZ (pa b):=by
 unfold pa;split
 ·rename_i h;intro f hf;cases hf;exact h
 ·rcases Rw.te (zT (St.cZ b).1 0).1 with⟨a,e,d,he⟩|⟨en,T,d⟩
  ·rw[d];intro f hf;cases hf;exact he
  ·rw[d];exact P3 _
def Cw {b:zY}{g:bY}(h:pa b= .ok g):zD g∧pZ g=g∧ ∀m∈g.ms,∀x∈m.code,Cd.dr x:=by
 have i:=St.yJ b;have d:=St.v7 b;have j:= @St.v9 b;obtain⟨I,q,o,n,M,L,K⟩:=St.uw b;unfold pa at h;rw[K]at h i d j;simp only at h i d j;split at h
 ·cases h
 rename_i he;have he:L=0:=by simpa using he
 have v:=j he;rcases Rw.te (zT [I,q,o,n] 0).1 with⟨a,e,l,_⟩|⟨en,T,l⟩
 ·rw[l]at h;cases h
 ·rw[l]at h;obtain⟨J,u,H,G,F,E,y,w⟩:=IP l;exact Ew ⟨by have:=i q (by simp);simp only[M8,zT,getD_cons_zero,getD_cons_succ];omega,by have:=i o (by simp);simp only[M8,zT,getD_cons_zero,getD_cons_succ];omega,by have:=i n (by simp);simp only[M8,zT,getD_cons_zero,getD_cons_succ];omega,
   d q (by simp),d o (by simp),d n (by simp),u,H,G,F,E,y,w⟩ h
def Bp (S:List Nat):bH prog [(6,(.S 0 (.S 1 (.S 2 (.S 4 (.S 5 (.S 6 (.R 3 (.R 7 (.S 8 .D))))))))))] S:=mixed
def sP (S:List Nat):bH prog [(6,(.S 0 (.S 2 (.S 5 (.S 7 (.R 1 (.S 3 (.R 4 (.R 6 (.S 8 (.R 9 (.S 10 .D))))))))))))] S:=mixed
def jx (S:List Nat):bH prog [(13,(.S 0 (.S 2 (.S 5 (.S 7 (.R 1 (.S 3 (.R 4 (.R 6 (.S 8 (.R 9 (.S 10 .D)))))))))))),(18,(.S 0 (.S 2 (.S 5 (.S 7 (.R 1 (.S 3 (.R 4 (.R 6 (.S 8 (.R 9 (.A 10 (.S 11 .D) .Z))))))))))))] S:=mixed
open Rg (Cl fY aL)
def W6:Program.stoodInHeld prog 110=false:=by kernel_rfl
@[simp] def Xp:Program.eqGuardType prog prog.depth 110=false:=by kernel_rfl
def W9:Program.stoodInHeld prog 158=false:=by kernel_rfl
@[simp] def Xs:Program.eqGuardType prog prog.depth 158=false:=by kernel_rfl
def W8:Program.stoodInHeld prog 56=false:=by kernel_rfl
@[simp] def Xr:Program.eqGuardType prog prog.depth 56=false:=by kernel_rfl
def QA (a b k i d:Int) (r:Bool):jm prog 8 110 (.agg [zI a,zI b,zI k,zI i,zI d,zB r]) (.agg [zI a,zI b,zI k,zI i,zI d,zB r])=some true:=by simp[jm,pS,underlying110,underlying49,underlying3,underlying2,underlying4]
def QC (a b c d e f k i x:Int) (r:Bool):jm prog 8 158 (.agg [zI a,zI b,zI c,zI d,zI e,zI f,zI k,zI i,zI x,zB r]) (.agg [zI a,zI b,zI c,zI d,zI e,zI f,zI k,zI i,zI x,zB r])=some true:=by simp[jm,pS,underlying158,underlying49,underlying3,underlying4]
def QB (s:ByteArray) (o k i d:Int) (r st:Bool):jm prog 8 56 (.agg [.sc (.string s),zI o,zI k,zI i,zI d,zB r,zB st]) (.agg [.sc (.string s),zI o,zI k,zI i,zI d,zB r,zB st])=some true:=by simp[jm,pS,underlying56,underlying49,underlying9,underlying3,underlying4]
def Nj (l:List cE) (o n:cC) (n1 n2:Bool) (hl:l.length≤140737488355328) (σ:AS):
 ad prog 96 [.ao 110 (l.map aJ) o n1,.ao 110 (l.map aJ) n n2] σ (ah (zB true) σ) No:=by
 refine ad.ob func96 ?_;refine gO Bp tI tI ?_;refine aq.aQ (α:=(Nat)) (0) (fun i=>l.length-i) (fun i=>i≤l.length) [(0,?_),(1,?_)] (fun i=> [(5,zI i)]) (fun i=>σ) ?_ ?_ ?_ ?_;rotate_left 2
 ·exact gF tI
 ·exact gT
 ·exact Nat.zero_le _
 intro i j;try dsimp only at j⊢
 obtain u:=j;simp only[eZ];by_cases d:i<l.length
 ·have h:zW ((i:Int)+1)=((i+1:Nat):Int):=bQ (by omega);generalize q:l[i]=x at*;refine gO Bp (j6 d @q @fI @QA @aH @h) tI ?_;refine gB (i+1) gT ?_;try dsimp only
  exact d
 ·exact gE Bp (j2 d @aH) tI;all_goals exact gJ tI
def Mi (h E:Mt) (he:EJ h=EJ E) (h1:h.ps.length≤1000000) (H:h.ls.length≤1000000) (h3:h.code.length≤1000000) (Y:h.cls.length≤1000000) (σ:AS):
 ad prog 42 [kH h,kH E] σ (ah (zB true) σ) No:=by
 obtain⟨nm,I,fl,ps,pn,rt,ls,ln,mx,co,cn,l,xn⟩:=h;obtain⟨P,O,ac,M,o,L,T,q,Q,af,w,al,y⟩:=E;simp only[EJ,Mt.mk.injEq]at he;obtain⟨rfl,rfl,rfl,rfl,_,rfl,rfl,_,rfl,rfl,_,rfl,_⟩:=he;simp only at h1 H h3 Y;have J:=fun σ=>Sg.we ps ps .aI .aI pn o h1 h1 σ;have v:=fun σ=>Sg.we ls ls .aI .aI ln q H H σ;have X:=fun σ=>Nj co .aI .aI cn w (by omega) σ;simp only[decide_true]at J v;simp only[bw];refine ad.ob func42 ?_;refine gO sP tI tI ?_;intro id K;refine gO sP tI tI ?_;intro F d G;refine gO sP d tI ?_;refine aq.aQ (α:=(Nat)) (0) (fun i=>l.length-i) (fun i=>i≤l.length) [(2,?_),(3,?_)] (fun i=> [(5,zI i)]) (fun i=>(σ.set id (.cells 53 (kH ⟨nm,I,fl,ps,pn,rt,ls,ln,mx,co,cn,l,xn⟩).cells)).set F (.cells 53 (kH ⟨nm,I,fl,ps,o,rt,ls,q,mx,co,w,l,y⟩).cells)) ?_ ?_ ?_ ?_;rotate_left 2
 ·exact gF tI
 ·exact gT
 ·exact Nat.zero_le _
 intro i u;try dsimp only at u⊢
 obtain hi:=u;simp only[eZ];by_cases j:i<l.length
 ·have n:zW ((i:Int)+1)=((i+1:Nat):Int):=bQ (by omega);generalize V:l[i]=x at*;refine gO sP (j8 j @V d @bw @aL @QC @aH @n) tI ?_;refine gB (i+1) gT ?_;try dsimp only
  exact j
 ·refine gO sP (j4 j d @bw @aH) (j3 @J @v @X) ?_;all_goals exact gJ tI
structure Xw (g:bY):Prop where
 ts:g.ts.length≤1000000
 fs:g.fs.length≤1000000
 ms:g.ms.length≤1000000
 t:∀t∈g.ts,t.bg.length≤1000000
 m:∀m∈g.ms,m.ps.length≤1000000∧m.ls.length≤1000000∧m.code.length≤1000000∧m.cls.length≤1000000
def Kb {α β:Type}{f:α→β}{l m:List α}(h:l.map f=m.map f) {i:Nat}(d:i<l.length):∃j:i<m.length,f l[i]=f m[i]:=by
 have hl:l.length=m.length:=by have:=congrArg List.length h;simpa using this
 refine⟨by omega,?_⟩;have h1:(l.map f)[i]? =(m.map f)[i]? :=by rw[h]
 simpa[getElem?_map,d,show i<m.length by omega]using h1
def rP (g1 g2:bY) (he:pZ g1=pZ g2) (hS:Xw g1) (σ:AS):ad prog 15 [mr g1,mr g2] σ (ah (zB true) σ) No:=by
 obtain⟨ts,tn,fs,fn,ms,mn,en⟩:=g1;obtain⟨h,y,bs,G,n,E,cb⟩:=g2;simp only[pZ,bY.mk.injEq]at he;obtain⟨hT,_,rfl,_,hM,_,rfl⟩:=he;have bc:ts.length=h.length:=by have:=congrArg List.length hT;simpa using this
 have bf:ms.length=n.length:=by have:=congrArg List.length hM;simpa using this
 have av:((ts.length:Int)=h.length)=True:=by simp;omega
 have a0:((ms.length:Int)=n.length)=True:=by simp;omega
 obtain⟨b1,b2,b3,b4,b5⟩:=hS;simp only at b1 b2 b3 b4 b5;simp only[bj];refine ad.ob func15 ?_;refine gO jx tI tI ?_;intro id Y;refine gO jx tI tI ?_;intro w v I;have u:=aK v;have k1:((σ.set id (.cells 26 [.ao 46 (ts.map nA) .aI tn,.ao 56 (fs.map pR) .aI fn,.ao 53 (ms.map kH) .aI mn,zI en])).set w (.cells 26 [.ao 46 (h.map nA) .aI y,.ao 56 (fs.map pR) .aI G,.ao 53 (n.map kH) .aI E,zI en])) id=some (.cells 26 [.ao 46 (ts.map nA) .aI tn,.ao 56 (fs.map pR) .aI fn,.ao 53 (ms.map kH) .aI mn,zI en]):=by rw[AS.ae _ _ u,AS.ak]
 have P:((σ.set id (.cells 26 [.ao 46 (ts.map nA) .aI tn,.ao 56 (fs.map pR) .aI fn,.ao 53 (ms.map kH) .aI mn,zI en])).set w (.cells 26 [.ao 46 (h.map nA) .aI y,.ao 56 (fs.map pR) .aI G,.ao 53 (n.map kH) .aI E,zI en])) w=some (.cells 26 [.ao 46 (h.map nA) .aI y,.ao 56 (fs.map pR) .aI G,.ao 53 (n.map kH) .aI E,zI en]):=AS.ak _ _ _;have hle:AS.le σ ((σ.set id (.cells 26 [.ao 46 (ts.map nA) .aI tn,.ao 56 (fs.map pR) .aI fn,.ao 53 (ms.map kH) .aI mn,zI en])).set w (.cells 26 [.ao 46 (h.map nA) .aI y,.ao 56 (fs.map pR) .aI G,.ao 53 (n.map kH) .aI E,zI en])):=AS.aj (AS.aj (lR _) Y) I;generalize ((σ.set id (.cells 26 [.ao 46 (ts.map nA) .aI tn,.ao 56 (fs.map pR) .aI fn,.ao 53 (ms.map kH) .aI mn,zI en])).set w (.cells 26 [.ao 46 (h.map nA) .aI y,.ao 56 (fs.map pR) .aI G,.ao 53 (n.map kH) .aI E,zI en]))=S at*;refine gO jx (j4 @k1 @P @av @a0) tI ?_;refine aq.aQ (α:=(Nat)) (0) (fun i=>ts.length-i) (fun i=>i≤ts.length) [(2,?_),(3,?_)] (fun i=> [(5,zI i)]) (fun i=>S) ?_ ?_ ?_ ?_;rotate_left 2
 ·exact gF tI
 ·exact gT
 ·exact Nat.zero_le _
 intro i o;try dsimp only at o⊢
 obtain hi:=o;simp only[eZ];by_cases d:i<ts.length
 ·obtain⟨K,J⟩:=Kb hT d;have O:zW ((i:Int)+1)=((i+1:Nat):Int):=bQ (by omega);have hg:ts[i]? =some ts[i]:=getElem?_eq_getElem d;have ar:h[i]? =some h[i]:=getElem?_eq_getElem K;have hf:=b4 _ (getElem_mem d);have F:((i:Int)<ts.length)=True:=by simp;omega
  generalize al:ts[i]=t1 at*;generalize af:h[i]=t2 at*;obtain⟨nm,fl,ex,fa,fb⟩:=t1;obtain⟨a9,bv,ca,b6,a2⟩:=t2;simp only[OV,TD.mk.injEq]at J;obtain⟨rfl,rfl,rfl,rfl,_⟩:=J;simp only at hf;have T:=fun σ=>Pl.I6 fa fa .aI .aI fb a2 (by omega) (by omega) σ;simp only[decide_true]at T;have V:∀l:List Int,l.map iV=l.map aS:=fun l=>rfl;refine gO jx (j6 @k1 F d @al @eI @V) tI ?_;intro id3 H;have ac:¬w=id3:=nq P H;refine gO jx (j7 @P @ac @K @af @eI @V @aH) tI ?_;intro bb a1 X;have ab:=aK a1;refine gO jx (j2 @ab @O) @T ?_;refine gB (i+1) (by(try dsimp only);exact AS.aj (AS.aj (lR _) H) X) ?_;try dsimp only
  exact d
 ·have F:((i:Int)<ts.length)=False:=by simp;omega
  refine gO jx (j2 @k1 F) tI ?_;refine aq.aQ (α:=(Nat)) (0) (fun j=>fs.length-j) (fun j=>j≤fs.length) [(2,?_),(3,?_)] (fun j=> [(8,zI j)]) (fun j=>S) ?_ ?_ ?_ ?_;rotate_left 2
  ·exact gF tI
  ·exact gT
  ·exact Nat.zero_le _
  intro j o;try dsimp only at o⊢
  obtain K:=o;simp only[eZ];by_cases d:j<fs.length
  ·have M:zW ((j:Int)+1)=((j+1:Nat):Int):=bQ (by omega);have hg:fs[j]? =some fs[j]:=getElem?_eq_getElem d;have F:((j:Int)<fs.length)=True:=by simp;omega
   generalize J:fs[j]=x at*;refine gO jx (j8 @k1 @P F d @J @gy @QB @M) tI ?_;refine gB (j+1) gT ?_;try dsimp only
   exact d
  ·have F:((j:Int)<fs.length)=False:=by simp;omega
   refine gO jx (j2 @k1 F) tI ?_;refine aq.aQ (α:=(Nat)) (0) (fun q=>ms.length-q) (fun q=>q≤ms.length) [(2,?_),(3,?_)] (fun q=> [(9,zI q)]) (fun q=>S) ?_ ?_ ?_ ?_;rotate_left 2
   ·exact gF tI
   ·exact gT
   ·exact Nat.zero_le _
   intro q o;try dsimp only at o⊢
   obtain hq:=o;simp only[eZ];by_cases d:q<ms.length
   ·obtain⟨K,J⟩:=Kb hM d;have L:zW ((q:Int)+1)=((q+1:Nat):Int):=bQ (by omega);have hg:ms[q]? =some ms[q]:=getElem?_eq_getElem d;have ar:n[q]? =some n[q]:=getElem?_eq_getElem K;have F:((q:Int)<ms.length)=True:=by simp;omega
    obtain⟨c1,c2,c3,c4⟩:=b5 _ (getElem_mem d);have Q:=fun σ=>Mi _ _ J c1 c2 c3 c4 σ;simp only[bw]at Q;generalize ap:ms[q]=m1 at*;generalize am:n[q]=m2 at*;refine gO jx (j2 (j7 @k1 @P F d @K @ap @am) (j3 @bw @aH @L)) @Q ?_;refine gB (q+1) gT ?_;try dsimp only
    exact d
   ·have F:((q:Int)<ms.length)=False:=by simp;omega
    refine gO jx (j2 @k1 F) tI ?_;exact hle
end Im
end Go.Proofs.YtknalmoackcpbaaGreat
