/- Own. -/
import Derived.Test.YtknalmoackcpbaaGreatRtS
set_option maxRecDepth 100000
set_option maxHeartbeats 3200000
set_option linter.all false
namespace Go.Proofs.YtknalmoackcpbaaGreat
namespace Im
open Go Go.AW Tryz
theorem fZ (S:List Nat):aH prog [(6,(.step 0 (.step 1 (.step 2 (.step 3 (.step 5 (.step 6 (.step 7 (.step 8 (.read 4 (.read 9 (.read 10 (.step 11 .done)))))))))))))] S:=mixed
variable {k:LK} {e:LE} {d:LD} {B τ:AS}
theorem ae.JT {P:Program}{n:Nat}{ds:List Deferred}{Q:AQ}{s:Fr}{σ S:AS}{c:Code}(i j:Nat) {e ty:TypeId}{es:List AV}{v:AV}{cs2:List AV}(O:GV P e es v S σ) (y:S i=some (.cells ty cs2)) (K:cs2[j]? =some v)
 (h:∀nl,(nl=true→es= [])→ae P n ds c Q s (S.set i (.cells ty (cs2.set j (.an e es .aE nl))))):ae P n ds c Q s σ:=by
 have q:j<cs2.length:=(List.getElem?_eq_some_iff.1 K).1;have u:cs2.getD j .any=v:=by rw[List.getD_eq_getElem?_getD,K];rfl
 intro G0 G a w h1 g;rcases O with⟨rfl,A,rfl⟩|⟨id,cap,M,h0,A,rfl,F,L⟩
 ·obtain⟨b,vs,J,I,V,H⟩:=g.inv.cells i ty cs2 y;have o:=g.inv.tu (cs':=cs2.set j (.an e [] .aE true)) y J I (by simp) (fun k E=>by
   rw[List.length_set]at E;have:=(H k (by omega)).1;by_cases l:k=j
   ·subst l;rw[u,A]at this;rw[List.getD_eq_getElem?_getD,List.getElem?_set_self q];generalize vs.getD k undef=x at this⊢;cases this;exact .jd trivial
   ·rw[List.getD_eq_getElem?_getD,List.getElem?_set_ne (fun e=>l e.symm),←List.getD_eq_getElem?_getD];exact this)
  exact h true (fun _ =>rfl) G0 G a w h1 ⟨o,g.size,g.ds,g.rep⟩
 ·have D:i≠id:=nq h0 y;obtain⟨G',hle,T,conv⟩:=g.inv.sy h0 F;obtain⟨b,vs,J,I,V,H⟩:=g.inv.cells i ty cs2 (by rw[AS.ad _ _ D];exact y);have o:=T.tu (cs':=cs2.set j (.an e es .aE false)) y (hle.inj _ _ J) I (by simp) (fun k E=>by
   rw[List.length_set]at E;have:=(H k (by omega)).1;by_cases l:k=j
   ·subst l;rw[u,A]at this;rw[List.getD_eq_getElem?_getD,List.getElem?_set_self q];have:=conv 0 es.length cap _ (by simp) (by omega) (by rw[Nat.zero_mul];exact this)
    simpa using this
   ·rw[List.getD_eq_getElem?_getD,List.getElem?_set_ne (fun e=>l e.symm),←List.getD_eq_getElem?_getD];exact this.mono hle)
  exact h false (fun U=>by cases U) G0 G' a w (h1.trans hle) ⟨o,g.size,g.ds,fun j=>(g.rep j).mono hle⟩
theorem LI.gv {A S:AS}{es:List AV}{v:AV}(D:GV prog 46 es v S τ) (h:LI k e d A S):
 ∃w,AS.le A w∧LI k e d w τ∧ ∀l g,LI k e l w g→ ∃n,GV prog 46 es v n g∧LI k e l A n:=by
 rcases D with⟨h1,E,rfl⟩|⟨id,cap,i,h0,y,rfl,o,j⟩
 ·exact⟨A,lR _,h,fun l g u=>⟨g,.inl ⟨h1,E,rfl⟩,u⟩⟩
 ·have q:=h.mP h0;refine⟨A.set id (.cells 46 (az (es++i))),aq q (lR _),h.own h0,fun l g u=> ?_⟩;obtain⟨n,s1,s2,s3⟩:=u.erase (AS.aj _ _ _) (aq q (lR _)) q;exact⟨n,.inr ⟨id,cap,i,s1,y,s2,o,j⟩,s3⟩
theorem MH {e:LE}{u:Unit}(h:pq 0 (vg e)= .ok u):e.t0.length≤32∧e.t1.length≤64∧e.t2.length≤64∧e.t3.length≤128∧e.t4.length≤16383∧e.t5.length≤64:=by
 simp only[vg,pq]at h;rcases aK h with⟨c0,h⟩|⟨_,h⟩;rotate_left
 ·cases h
 rcases aK h with⟨n,h⟩|⟨_,h⟩;rotate_left
 ·cases h
 rcases aK h with⟨l,h⟩|⟨_,h⟩;rotate_left
 ·cases h
 rcases aK h with⟨j,h⟩|⟨_,h⟩;rotate_left
 ·cases h
 rcases aK h with⟨i,h⟩|⟨_,h⟩;rotate_left
 ·cases h
 rcases aK h with⟨g,h⟩|⟨_,h⟩;rotate_left
 ·cases h
 simp only[decide_eq_true_eq]at c0 n l j i g;omega
theorem uF {b:Go.By}{nt:Int} :∀ {rs:List (List Int)}{acc:List Ty}{i:Nat}{out:List Ty},iK b nt acc i rs= .ok out→out.length=acc.length+rs.length
 |[],acc,i,out,h=>by simp only[iK]at h;cases h;simp
 |r::rs,acc,i,out,h=>by
  simp only[iK]at h;rcases bD h with⟨x,_,h⟩|⟨f,_,h⟩;rotate_left
  ·cases h
  rcases aK h with⟨_,h⟩|⟨_,h⟩;rotate_left
  ·cases h
  rcases aK h with⟨_,h⟩|⟨_,h⟩;rotate_left
  ·cases h
  have:=uF h;simp at this⊢;omega
theorem wV {b:Go.By}{nt:Int} :∀ {rs:List (List Int)}{acc:List (List Ty)}{i:Nat}{out:List (List Ty)},k9 b nt acc i rs= .ok out→(∀x∈acc,x.length≤12)→out.length=acc.length+rs.length∧ ∀x∈out,x.length≤12
 |[],acc,i,out,h,ha=>by simp only[k9]at h;cases h;exact⟨by simp,ha⟩
 |r::rs,acc,i,out,h,ha=>by
  simp only[k9]at h;rcases bD h with⟨x,_,h⟩|⟨f,_,h⟩;rotate_left
  ·cases h
  rcases aK h with⟨_,h⟩|⟨_,h⟩;rotate_left
  ·cases h
  rcases bD h with⟨_,_,h⟩|⟨_,_,h⟩;rotate_left
  ·cases h
  have:=wV h (fun y g=>by
   rcases List.mem_append.1 g with g|g
   ·exact ha y g
   ·rw[List.mem_singleton.1 g];exact BV x)
  simp at this⊢;exact⟨by omega,this.2⟩
theorem yO {b:Go.By}{nt:Int} :∀ {rs:List (List Int)}{acc:List TD}{i:Nat}{out:List TD},mM b nt acc i rs= .ok out→out.length=acc.length+rs.length
 |[],acc,i,out,h=>by simp only[mM]at h;cases h;simp
 |r::rs,acc,i,out,h=>by
  simp only[mM]at h;rcases bD h with⟨x,_,h⟩|⟨f,_,h⟩;rotate_left
  ·cases h
  have:=yO h;simp at this⊢;omega
theorem uH {nt:Int} :∀ {rs:List (List Int)}{acc:List TD}{i:Nat}{out:List TD},eY nt acc i rs= .ok out→out.length=acc.length
 |[],acc,i,out,h=>by simp only[eY]at h;cases h;rfl
 |r::rs,acc,i,out,h=>by
  simp only[eY]at h;rcases aK h with⟨_,h⟩|⟨_,h⟩;rotate_left
  ·cases h
  split at h
  ·cases h
  ·rcases aK h with⟨_,h⟩|⟨_,h⟩;rotate_left
   ·cases h
   have:=uH h;simpa using this
theorem BY {e:LE}{ts:List TD}(h:lv e= .ok ts):ts.length=e.t0.length:=by
 unfold lv at h;rcases bD h with⟨x,h1,h⟩|⟨f,_,h⟩
 ·rw[uH h,yO h1];simp
 ·cases h
theorem DO {e:LE}{v:List Ty×List (List Ty)}(h:pT e= .ok v):v.1.length=e.t4.length∧v.2.length=e.t5.length∧ ∀x∈v.2,x.length≤12:=by
 unfold pT at h;rcases bD h with⟨sp,h1,h⟩|⟨f,_,h⟩;rotate_left
 ·cases h
 rcases bD h with⟨lo,j,h⟩|⟨f,_,h⟩;rotate_left
 ·cases h
 cases h;have i:=uF h1;have g:=wV j (by simp);simp at i g;exact⟨i,g⟩
def Vp (g:bZ) (B:AS) (r:AV) (h:AS):Prop:= ∃nl,(nl=true→g.ts= [])∧ao (pD { g with tn:=nl }) B r h
theorem LI.image (h:LI k e d B τ) (h1:d.sp= []) (h2:d.lo= []) (h3:d.ty= .ai) (h4:d.fs= []) (h5:d.ms= []):
 aa prog 47 [.ptr k.id 0] τ (RL (wW e) (fun g=>Vp g B)) (TL (wW e) B):=by
 obtain⟨X,G⟩:∃X,wW e=X:=⟨_,rfl⟩;rw[G];unfold wW at G;have im:∀ {f T},X= .error f→AS.le B T→ ∃σ',AS.le σ' T∧TL X B (pX f) σ':=fun {f T} hx hle=>⟨T,lR _,_,hx,rfl,hle⟩;have b6:=h.e.en;have ac:IntKind.i64.wrap (e.en-1)=e.en-1:=ay (by omega) (by omega);have ca:=h.e.t2.1;refine aa.ob func47 ?_;refine gO fZ tI tI ?_;intro j o;have I:=h.own (b:= .cells 26 [.ai,.ai,.ai,.sc (.int .i64 0)]) o;have kA:(B.set j (.cells 26 [.ai,.ai,.ai,.sc (.int .i64 0)])) j=some (.cells 26 [.ai,.ai,.ai,.sc (.int .i64 0)]):=AS.aj _ _ _;have M:B j=none:=h.mP o;have l:AS.le B (B.set j (.cells 26 [.ai,.ai,.ai,.sc (.int .i64 0)])):=aq M (lR _);generalize (B.set j (.cells 26 [.ai,.ai,.ai,.sc (.int .i64 0)]))=A at*;generalize (τ.set j (.cells 26 [.ai,.ai,.ai,.sc (.int .i64 0)]))=τ1 at*;clear o h;rcases bD G with⟨u,hC,i⟩|⟨f,hC,i⟩;rotate_left
 ·have V:=RL.bad I.counts hC;refine gO fZ tI @V ?_;refine eD ?_;intro τ2 l2;exact im i (AS.le_trans (AS.le_trans l I.le) l2)
 have V:=RL.ok I.counts hC;have L:=MH hC;rcases bD i with⟨⟨sp,lo⟩,Z,i⟩|⟨f,Z,i⟩;rotate_left
 ·have hs:=RL.bad (I.signatures h1 h2 I.le) Z;refine gO fZ tI (j2 @V @hs) ?_;refine eD ?_;intro τ2 l2;exact im i (AS.le_trans l l2)
 have hs:=RL.ok (I.signatures h1 h2 I.le) Z;have E:=DO Z;simp only at E i;refine gO fZ tI @V ?_;refine ag.of hs ?_ (fun _ _ h=>h.elim);rintro r τ2 ⟨rfl,Q⟩;simp-implicitDefEqProofs;rcases bD i with⟨ts,Y,i⟩|⟨f,Y,i⟩;rotate_left
 ·have ht:=RL.bad (Q.types h3 L.1) Y;refine gO fZ tI @ht ?_;refine eD ?_;intro τ3 l3;exact im i (AS.le_trans l l3)
 have ht:=RL.ok (Q.types h3 L.1) Y;have al:=BY Y;refine gO fZ tI tI ?_;refine ag.of ht ?_ (fun _ _ h=>h.elim);rintro r τ3 ⟨rfl,v,S,hG,a4⟩;simp-implicitDefEqProofs;have w:∀(σ:AS) (K:AV→Prop),jL prog σ 22 v K=K (.sc (.int .i64 e.t0.length)):=fun σ K=>by rw[Cd.JO hG underlying22 σ K,List.length_map,al]
 obtain⟨A',a2,P,F⟩:=a4.gv hG;have D:AS.le B A':=AS.le_trans l a2;rcases bD i with⟨fs,hF,i⟩|⟨f,hF,i⟩;rotate_left
 ·have hf:=RL.bad (P.fields h4 _ rfl w) hF;refine gO fZ tI @hf ?_;refine eD ?_;intro τ4 l4;exact im i (AS.le_trans D l4)
 have hf:=RL.ok (P.fields h4 _ rfl w) hF;refine gO fZ tI tI ?_;refine ag.of hf ?_ (fun _ _ h=>h.elim);rintro r τ4 ⟨rfl,O⟩;simp-implicitDefEqProofs;rcases bD i with⟨ms,hM,i⟩|⟨f,hM,i⟩;rotate_left
 ·have hm:=RL.bad (O.methods h5 (by simp only;omega) (by simp only;omega) E.2.2 _ rfl w) hM;refine gO fZ tI @hm ?_;refine eD ?_;intro τ5 l5;exact im i (AS.le_trans D l5)
 have hm:=RL.ok (O.methods h5 (by simp only;omega) (by simp only;omega) E.2.2 _ rfl w) hM;refine gO fZ tI tI ?_;refine ag.of hm ?_ (fun _ _ h=>h.elim);rintro r τ5 ⟨rfl,a3⟩;obtain⟨S',a0,y⟩:=F _ _ a3;simp-implicitDefEqProofs;refine ae.JT k.id 8 a0 y.id rfl ?_;intro nl ap;have H:=y.Nl (.an 46 (ts.map kE) .aE nl);have U:=H.le _ _ kA;have q:=H.id;have n1:¬k.id=j:=by rintro e';have:=y.fr k.id (by simp);rw[e',kA]at this;cases this
 have n2:¬j=k.id:=fun e'=>n1 e'.symm;have hle:AS.le B (S'.set k.id (.cells 108 (C2 k e { d with sp:=sp,lo:=lo,ty:= .an 46 (ts.map kE) .aE nl,fs:=fs,ms:=ms } 0))):=AS.le_trans l H.le;rw[b8]at q hle U;simp only[cx]at q hle U;rw[b8];simp only[cx,List.set_cons_succ,List.set_cons_zero];generalize (S'.set k.id _)=τ6 at q hle U⊢;by_cases J:(ms.length:Int)<e.en
 ·rw[if_pos J]at i;have ar:=fun σ=>qN 5 5 393216 σ;have n:((ms.length:Int)<e.en)=True:=by simp;omega
  refine gO fZ (j2 @q n) @ar ?_;exact im i.symm hle
 ·rw[if_neg J]at i;have n:((ms.length:Int)<e.en)=False:=by simp;omega
  refine gO fZ (j5 @q n @ac @U @n2) tI ?_;refine⟨pD ⟨ts,nl,fs,decide (fs= []),ms,decide (ms= []),e.en-1⟩,B,St.lG (Wk.refl _) (by simp) (by simp) (Wk.refl _),?_,_,i.symm,nl,by simpa using ap,rfl,rfl⟩;refine AS.ah (AS.ah hle ?_) M;exact y.drop l|>.fr _ (by simp)
end Im
end Go.Proofs.YtknalmoackcpbaaGreat
namespace Go.Proofs.YtknalmoackcpbaaGreat
namespace St
open Go Go.AW Tryz
def ND (s:Nat→Go.By) (k:Nat):Go.By:=bg (mz s k) 4++bg (s k).length 4++tg k
theorem Ae (s:Nat→Go.By) (k:Nat):uL s (k+1)=uL s k++ND s k:=by simp[uL,ND]
theorem MC (s:Nat→Go.By) (k:Nat):(ND s k).length=12:=by simp[ND,ax,Dc]
theorem Ml (s:Nat→Go.By):∀(j k:Nat) (R:Go.By),k<j→At (uL s j++R) (8+12*k) (ND s k):=by
 intro j;induction j with
 |zero=>intro k R h;omega
 |succ j g=>
  intro k R h;by_cases e:k=j
  ·subst e;have:=At.bh (uL s k) (ND s k) R;rwa [←Ae,su]at this
  ·rw[Ae,List.append_assoc];exact g k _ (by omega)
theorem O0 (s:Nat→Go.By):∀(j:Nat) (R:Go.By),At (uL s j++R) 0 [67,71,82,68,1,0,4,0]:=by
 intro j;induction j with
 |zero=>intro R;exact At.bh [] _ R
 |succ j g=>intro R;rw[Ae,List.append_assoc];exact g _
theorem ML (s:Nat→Go.By) (H:Go.By):∀(j k:Nat) (R:Go.By),k<j→At (H++(kp s j++R)) (H.length+((kp s k).length+pad (kp s k).length)) (s k):=by
 intro j;induction j with
 |zero=>intro k R h;omega
 |succ j g=>
  intro k R h;by_cases e:k=j
  ·subst e;have:=At.bh (H++(kp s k++List.replicate (pad (kp s k).length) 0)) (s k) R;simp only[List.length_append,List.length_replicate]at this;simpa[kp]using this
  ·have:=g k (List.replicate (pad (kp s j).length) 0++s j++R) (by omega);simpa[kp]using this
theorem BE (s:Nat→Go.By) (k:Nat):mz s k+(s k).length≤mz s (k+1):=by simp only[mz,kp,List.length_append,List.length_replicate];omega
theorem LR (s:Nat→Go.By) (k:Nat):mz s k%4=0:=by have:=OC (kp s k).length;unfold mz;omega
theorem I9 {b:Go.By}{a:Nat}{x:Nat}(h:At b a (bg x 4)) (g:x<4294967296):bj (cy b (a:Int) 4)=x:=by have:=(At.num (n:=4) h (by omega) (by(have e:(256:Int)^4=4294967296:=by decide);omega)).2;simpa using this
theorem zG {b:Go.By}{a n:Nat}{t:Go.By}(h:At b a t) (g:t.length=n):cy b (a:Int) (n:Int)=t:=by rw[mZ,←g];exact h.2
theorem Ld {t:Go.By}{j:Nat}(g:j<4):tg j=t↔oa t=j:=by
 constructor
 ·rintro rfl
  match j,g with
  |0,_ =>decide
  |1,_ =>decide
  |2,_ =>decide
  |3,_ =>decide
 ·intro h;unfold oa at h;split at h
  ·rename_i ht;obtain rfl:j=0:=by omega
   exact ht.symm
  split at h
  ·rename_i ht;obtain rfl:j=1:=by omega
   exact ht.symm
  split at h
  ·rename_i ht;obtain rfl:j=2:=by omega
   exact ht.symm
  split at h
  ·rename_i ht;obtain rfl:j=3:=by omega
   exact ht.symm
  ·omega
theorem Lb {k:Nat}(g:k<4):oa (tg k)=k:=(Ld g).1 rfl
structure vn (s:Nat→Go.By) (b:Go.By):Prop where
 hd:At b 0 [67,71,82,68,1,0,4,0]
 en:∀k,k<4→At b (8+12*k) (ND s k)
 lo:∀k,k<4→(s k).length≤65536
 VX:b.length≤65536
theorem vn.Ou {s:Nat→Go.By}{b:Go.By}(h:vn s b) {k:Nat}(g:k≤4):mz s k<400000:=by have h1:=Ax (s:=s) (k:=k) (N:=65536) (fun j i=>h.lo j (by omega));have l:=zO (kp s k).length;unfold mz;omega
theorem vn.entry {s:Nat→Go.By}{b:Go.By}(h:vn s b) {k:Nat}(g:k<4):
 bj (cy b ((8+12*k:Nat):Int) 4)=mz s k∧bj (cy b (((8+12*k:Nat):Int)+4) 4)=(s k).length∧oa (cy b (((8+12*k:Nat):Int)+8) 4)=k:=by
 have h1:=h.en k g;unfold ND at h1;rw[At.app,At.app]at h1;obtain⟨⟨h1,j⟩,i⟩:=h1;simp only[List.length_append,ax]at j i;have o:=h.Ou (k:=k) (by omega);have l:=h.lo k g;refine⟨I9 h1 (by omega),?_,?_⟩
 ·rw[show(((8+12*k:Nat):Int)+4)=((8+12*k+4:Nat):Int) by omega];exact I9 j (by omega)
 ·rw[show(((8+12*k:Nat):Int)+8)=((8+12*k+(4+4):Nat):Int) by omega];have:=zG (n:=4) i (Dc k);rw[show(4:Int)=((4:Nat):Int) from rfl,this,Lb g]
def sp (s:Nat→Go.By) (k:Nat):Int×Int×Int:=((k:Int),(mz s k:Int),(mz s k:Int)+(s k).length)
theorem vn.Qi {s:Nat→Go.By}{b:Go.By}(h:vn s b) {k:Nat}(v:k<4) {M:List (Int×Int×Int)}(o:∀x∈M,∃j,j<k∧x=sp s j):
 nZ b.length M k (mz s k) ((mz s k:Int)+(s k).length)=if (b.length:Int)<(mz s k:Int)+(s k).length then 1 else 0:=by
 have mono:∀j,j<k→mz s j+(s j).length≤mz s k:=by
  intro j n;obtain⟨d,rfl⟩:∃d,k=j+1+d:=⟨k-(j+1),by omega⟩;clear o v;induction d with
  |zero=>exact BE s j
  |succ d u=>
   have h1:=u (by omega);have A:=BE s (j+1+d);have:j+1+(d+1)=j+1+d+1:=by omega
   rw[this];omega
 have y:56≤mz s k:=by unfold mz;omega
 have w:=LR s k;unfold nZ;rw[if_neg,if_neg]
 ·by_cases g:(b.length:Int)<(mz s k:Int)+(s k).length
  ·rw[if_pos g,if_pos g]
  ·rw[if_neg g,if_neg g,if_neg];rw[List.any_eq_true];rintro⟨x,i,l⟩;obtain⟨j,n,rfl⟩:=o x i;have:=mono j n;have q:(mz s k:Int)<(mz s j:Int)+(s j).length∧(mz s j:Int)<(mz s k:Int)+(s k).length∧(mz s k:Int)<(mz s k:Int)+(s k).length∧(mz s j:Int)<(mz s j:Int)+(s j).length:=of_decide_eq_true l;omega
 ·omega
 ·rintro(h|h)
  ·omega
  ·rw[List.any_eq_true]at h;obtain⟨x,i,he⟩:=h;obtain⟨j,n,rfl⟩:=o x i;simp[sp]at he;omega
theorem vn.step {s:Nat→Go.By}{b:Go.By}(h:vn s b) {k:Nat}(g:k<4) {M:List (Int×Int×Int)}(i:∀x∈M,∃j,j<k∧x=sp s j) (ha:At b (mz s k) (s k)) (m:Nat) (o:rr):
 fh b (m+1) (8+12*k) M o=fh b m (8+12*(k+1)) (M++ [sp s k]) (o.set k (s k,false)):=by
 obtain⟨q,n,l⟩:=h.entry g;have hw:=h.Qi g i;have hl:=ha.len;rw[if_neg (by omega)]at hw;rw[fh,q,n,l,if_pos hw,show cy b (mz s k:Int) ((s k).length:Int)=s k from zG ha rfl];rfl
theorem vn.start {s:Nat→Go.By}{b:Go.By}(h:vn s b):dt b=fh b 4 8 [] E4:=by
 have h1:=(h.en 3 (by omega)).len;rw[MC]at h1;have hd:=h.hd;rw[show([67,71,82,68,1,0,4,0]:Go.By)= [67,71,82,68]++([1,0]++ [4,0]) from rfl,At.app,At.app]at hd;obtain⟨d1,d2,d3⟩:=hd;have t1:b.take 4=KO:=d1.take.symm;have i:cy b 4 2= [1,0]:=by simpa using zG (n:=2) d2 rfl
 have g:cy b 6 2= [4,0]:=by simpa using zG (n:=2) d3 rfl
 have t2:bj (cy b 4 2)=1:=by rw[i];rfl
 have t3:bj (cy b 6 2)=4:=by rw[g];rfl
 have j:=h.VX;rw[dt,if_neg (by omega),if_neg (by omega),if_neg (by simpa using t1),if_neg (by simpa using t2),if_neg (by simpa using t3)]
def LY (s:Nat→Go.By):rr:= [(s 0,false),(s 1,false),(s 2,false),(s 3,false)]
theorem WR (s:Nat→Go.By):∀x∈ [sp s 0],∃j,j<1∧x=sp s j:=by intro x g;rcases List.mem_singleton.1 g with rfl;exact⟨0,by omega,rfl⟩
theorem WQ (s:Nat→Go.By):∀x∈ [sp s 0,sp s 1],∃j,j<2∧x=sp s j:=by
 intro x g;rcases List.mem_cons.1 g with rfl|g
 ·exact⟨0,by omega,rfl⟩
 ·rcases List.mem_singleton.1 g with rfl;exact⟨1,by omega,rfl⟩
theorem WO (s:Nat→Go.By):∀x∈ [sp s 0,sp s 1,sp s 2],∃j,j<3∧x=sp s j:=by
 intro x g;rcases List.mem_cons.1 g with rfl|g
 ·exact⟨0,by omega,rfl⟩
 ·rcases List.mem_cons.1 g with rfl|g
  ·exact⟨1,by omega,rfl⟩
  ·rcases List.mem_singleton.1 g with rfl;exact⟨2,by omega,rfl⟩
theorem Io {s:Nat→Go.By}{b:Go.By}(h:vn s b) (ha:∀k,k<4→At b (mz s k) (s k)):dt b=(LY s,0,0):=by rw[h.start];have g:=h.step (k:=0) (by omega) (M:= []) (by simp) (ha 0 (by omega)) 3 E4;have s1:=h.step (k:=1) (by omega) (M:= [sp s 0]) (WR s) (ha 1 (by omega)) 2 (E4.set 0 (s 0,false));have s2:=h.step (k:=2) (by omega) (M:= [sp s 0,sp s 1]) (WQ s) (ha 2 (by omega)) 1 ((E4.set 0 (s 0,false)).set 1 (s 1,false));have s3:=h.step (k:=3) (by omega) (M:= [sp s 0,sp s 1,sp s 2]) (WO s) (ha 3 (by omega)) 0 (((E4.set 0 (s 0,false)).set 1 (s 1,false)).set 2 (s 2,false));exact g.trans (s1.trans (s2.trans s3))
theorem DQ {s:Nat→Go.By}(g:∀k,k<4→(s k).length≤65536) (i:(jo s).length≤65536):vn s (jo s) where
 hd:=O0 s 4 _
 en:=fun k h=>Ml s 4 k _ h
 lo:=g
 VX:=i
theorem JB {s:Nat→Go.By}{k:Nat}(g:k<4):At (jo s) (mz s k) (s k):=by have:=ML s (uL s 4) 4 k [] g;rw[su,List.append_nil]at this;rw[jo,mz];rwa [show 8+12*4+((kp s k).length+pad (kp s k).length)=56+(kp s k).length+pad (kp s k).length by omega]at this
theorem Dg {s:Nat→Go.By}(g:∀k,k<4→(s k).length≤65536) (i:(jo s).length≤65536):dt (jo s)=(LY s,0,0):=Io (DQ g i) fun k h=>JB h
theorem Bh {b:Go.By} :∀ {m a:Nat}{M:List (Int×Int×Int)}{o:rr},o.length=4→(fh b m a M o).1.length=4:=by
 intro m;induction m with
 |zero=>intro a M o h;simpa[fh]using h
 |succ m g=>
  intro a M o h;rw[fh];split
  ·exact g (by simpa using h)
  ·rfl
theorem Bg (b:Go.By):∃l j i g a e,dt b=([l,j,i,g],a,e):=by
 have h:(dt b).1.length=4:=by
  unfold dt
  repeat' split
  all_goals first|rfl|exact Bh rfl
 generalize dt b=x at h⊢;obtain⟨o,a,e⟩:=x
 match o,h with
 |[l,j,i,g],_ =>exact⟨l,j,i,g,a,e,rfl⟩
theorem Ob (b:Go.By) (x y:Int):(cy b x y).length≤b.length:=by simp[cy];omega
theorem Gg {b:Go.By} :∀ {m a:Nat}{M:List (Int×Int×Int)}{o:rr},(∀x∈o,x.1.length≤b.length)→ ∀x∈(fh b m a M o).1,x.1.length≤b.length:=by
 intro m;induction m with
 |zero=>intro a M o h;simpa[fh]using h
 |succ m i=>
  intro a M o h;rw[fh];split
  ·refine i (fun x g=> ?_);rcases List.mem_or_eq_of_mem_set g with g|rfl
   ·exact h x g
   ·exact Ob _ _ _
  ·intro x g;simp[E4]at g;subst g;simp
theorem Gf (b:Go.By):∀x∈(dt b).1,x.1.length≤b.length:=by
 have h:∀x∈E4,x.1.length≤b.length:=by intro x g;simp[E4]at g;subst g;simp
 unfold dt
 repeat' split
 all_goals first|exact h|exact Gg h
theorem Dj {b:Go.By} :∀ {m a:Nat}{M:List (Int×Int×Int)}{o:rr},(∀x∈o,x.2=true→x.1= [])→ ∀x∈(fh b m a M o).1,x.2=true→x.1= []:=by
 intro m;induction m with
 |zero=>intro a M o h;simpa[fh]using h
 |succ m i=>
  intro a M o h;rw[fh];split
  ·refine i (fun x g=> ?_);rcases List.mem_or_eq_of_mem_set g with g|rfl
   ·exact h x g
   ·intro e;cases e
  ·intro x g;simp[E4]at g;subst g;simp
theorem Dh (b:Go.By):∀x∈(dt b).1,x.2=true→x.1= []:=by
 have h:∀x∈E4,x.2=true→x.1= []:=by intro x g;simp[E4]at g;subst g;simp
 unfold dt
 repeat' split
 all_goals first|exact h|exact Dj h
theorem Di {b:Go.By}(h:(dt b).2.2=0):b.length≤65536:=by
 unfold dt at h;split at h
 ·simp at h
 ·omega
end St
namespace Rw
open Go Go.AW Tryz
theorem num_1 {b:Go.By}{a:Nat}(h:a<b.length):bj (cy b a 1)=b[a].toNat:=by
 have:cy b a 1= [b[a]]:=by have:=mZ b a 1;rw[show((1:Nat):Int)=1 from rfl]at this;rw[this];unfold sg;rw[List.drop_eq_getElem_cons h];rfl
 rw[this];simp[bj]
theorem IQ {b:Go.By}{a:Nat}{most:Int}(h:a<b.length):fm b a most=if most<b[a].toNat then .error ((a:Int),2)else .ok ((b[a].toNat:Int),a+1):=by unfold fm gh;rw[if_pos (by omega)];simp only;rw[show bj (cy b (a:Int) ((1:Nat):Int))=b[a].toNat from num_1 h]
theorem Dz {b:Go.By}{a n:Nat}{x:Int}(h:At b a (bg x n)) (h0:0≤x) (h1:x<256^n):gh b a n= .ok (x,a+n):=by obtain⟨i,g⟩:=h.num h0 h1;unfold gh;rw[if_pos i,g]
theorem Oj {b:Go.By} :∀ {g:Go.By}{r:List Int}{a:Nat},r.length=g.length→ot g r=true→At b a (qY g r)→gG b 0 g a= .ok (r,a+(qY g r).length):=by
 intro g;induction g with
 |nil=>
  intro r a hl _ _
  match r,hl with
  |[],_ =>simp[gG,qY]
 |cons k g i=>
  intro r a hl hf h
  match r,hl with
  |x::r,hl=>simp only[ot,Bool.and_eq_true]at hf;simp only[qY]at h⊢;rw[At.app,ax]at h;obtain⟨f1,f2,f3⟩:=sC hf.1;rw[gG,Dz h.1 f1 f3];simp only;rw[i (by simpa using hl) hf.2 h.2];simp[ax];omega
theorem Lz {b:Go.By}{t:Nat} :∀ {l:List (List Int)}{a:Nat},(∀r∈l,r.length=(bF (t:Int)).length)→lQ t l=true→At b a (pz t l)→
 jV b 0 (bF (t:Int)) l.length a= .ok (l,a+(pz t l).length):=by
 intro l;induction l with
 |nil=>intro a _ _ _;simp[jV,pz]
 |cons r l h=>intro a hl hf g;simp only[lQ,List.all_cons,Bool.and_eq_true]at hf;simp only[pz,List.flatMap_cons]at g⊢;rw[At.app]at g;rw[List.length_cons,jV,Oj (hl r (by simp)) hf.1 g.1];simp only;rw[h (fun r i=>hl r (by simp[i])) hf.2 g.2];simp[gq,pz];omega
theorem Ly {b:Go.By} :∀ {L:List (List (List Int))}{t a:Nat},iy t L=true→allFit t L=true→At b a (iE t L)→
 jU b 0 (L.map fun l=>(l.length:Int)) t a= .ok (L,a+(iE t L).length):=by
 intro L;induction L with
 |nil=>intro t a _ _ _;simp[jU,iE]
 |cons l L i=>intro t a h hf g;simp only[iy,allFit,Bool.and_eq_true]at h hf;simp only[iE]at g⊢;rw[At.app]at g;rw[List.map_cons,jU,Int.toNat_natCast,Lz (fun r j=>by simpa using List.all_eq_true.1 h.1 r j) hf.1 g.1];simp only;rw[i h.2 hf.2 g.2];simp[gq];omega
def tN:List (List (List Int))→Nat
 |[]=>0
 |l::r=>(if l= []then 0 else 1)+2*tN r
theorem Gd:∀(L:List (List (List Int))) (t:Nat),mY t L=2^t*tN L:=by
 intro L;induction L with
 |nil=>intro t;simp[mY,tN]
 |cons l L g=>intro t;rw[mY,tN,g,Nat.pow_succ,Nat.mul_add];split<;>simp[Nat.mul_assoc]
theorem QF:∀(L:List (List (List Int))),tN L<2^L.length:=by
 intro L;induction L with
 |nil=>simp[tN]
 |cons l L g=>rw[tN,List.length_cons,Nat.pow_succ];split<;>omega
theorem Lf:∀(L:List (List (List Int))) (t:Nat),tN L/2^t=tN (L.drop t):=by
 intro L t;induction t generalizing L with
 |zero=>simp
 |succ t g=>
  cases L with
  |nil=>simp[tN]
  |cons l L=>rw[List.drop_succ_cons,←g,Nat.pow_succ,Nat.mul_comm,←Nat.div_div_eq_div_mul,tN];congr 1;split<;>omega
theorem Ok {b:Go.By}{R:List (List (List Int))} :∀ {m t a:Nat},t+m=R.length→(∀l∈R,l.length≤65535)→At b a (kP (R.drop t))→
 jX b (tN R) m t a= .ok ((R.drop t).map (fun l=>(l.length:Int)),a+(kP (R.drop t)).length):=by
 intro m;induction m with
 |zero=>intro t a ht _ _;rw[List.drop_eq_nil_of_le (by omega)];simp[jX,kP]
 |succ m h=>
  intro t a ht hl g;obtain⟨l,j,hd,hm,_⟩:=iF R (show t<R.length by omega);rw[hd]at g⊢;rw[jX,Lf,hd,tN];simp only[kP,List.flatMap_cons]at g⊢;rw[At.app]at g;by_cases he:l= []
  ·subst he;simp only[sK,if_true,List.length_nil,Nat.add_zero]at g⊢;rw[if_neg (by omega),h (by omega) hl g.2];simp[gq,kP]
  ·have i:=hl l hm;rw[show sK l=bg l.length 2 by simp[sK,he],ax]at g;simp only[he,if_false];rw[if_pos (by omega),Dz g.1 (by omega) (by simp;omega)];simp only;rw[h (by omega) hl g.2];simp[gq,kP,sK,he,ax];omega
theorem Bu {b:Go.By}{a:Nat}{c:UInt8}{most:Int}(h:At b a [c]) (j:(c.toNat:Int)≤most):fm b a most= .ok ((c.toNat:Int),a+1):=by
 have h1:=h.len;simp at h1;rw[IQ (by omega)];have g:=h.2;unfold sg at g;rw[List.drop_eq_getElem_cons (show a<b.length by omega)]at g;have i:b[a]=c:=by rw[show [c].length=1 from rfl,List.take_succ_cons]at g;exact(List.cons.inj g).1
 rw[i,if_neg (by omega)]
theorem G3 {L:List (List (List Int))}(h:iy 0 L=true) {k:Nat}{l:List (List Int)}(g:L[k]? =some l):∀row∈l,row.length=(bF (k:Int)).length:=by have:=yV h g;simpa using this
theorem Dv {R:List (List (List Int))}{en:Int}(v:ff R=true) (u:okW R en=true) (hl:∀l∈R,l.length≤65535):mI (dr R en)=(some (en,R),0,0):=by
 simp only[ff,Bool.and_eq_true,decide_eq_true_eq]at v;simp only[okW,Bool.and_eq_true]at u;obtain⟨f1,f2,f3⟩:=sC u.2;have o:mY 0 R=tN R:=by rw[Gd];simp
 have j:=QF R;rw[v.1]at j;have h:(UInt8.ofNat (tN R)).toNat=tN R:=by simp;omega
 have w:At (dr R en) 0 (dr R en):=⟨by simp,by simp[sg]⟩;obtain⟨b,q⟩:∃b,dr R en=b:=⟨_,rfl⟩;rw[q]at w⊢;have g:At b 0 (dr R en):=by rw[q];exact w
 unfold dr at g;rw[o,At.app,At.app,At.app,At.cons]at g;obtain⟨⟨⟨J,I⟩,E,D⟩,A⟩:=g;simp only[List.length_append,List.length_cons,List.length_nil,ax]at E D A;have hlen:b.length=0+1+1+(kP R).length+2+(iE 0 R).length:=by rw[←q,dr];simp[ax];omega
 have h1:=Bu (most:=3) J (by decide);have H:=Bu (most:=63) I (by rw[h];omega);have y:=Ok (R:=R) (b:=b) (m:=6) (t:=0) (a:=0+1+1) (by omega) hl (by simpa using E);have G:=Dz (n:=2) (by simpa using D) f1 f3;have F:=Ly (b:=b) (L:=R) (t:=0) v.2 u.1 (by simpa[Nat.add_assoc]using A);rw[List.drop_zero]at y;have i:kY b= .ok ((en,R),b.length):=by unfold kY;rw[h1];simp only;rw[H];simp only[h,Int.toNat_natCast];rw[y];simp only;rw[show 0+1+1+(kP R).length=2+(kP R).length by omega];rw[G];simp only;rw[show UInt8.toNat 0=0 from rfl,show 2+(kP R).length+2=2+((kP R).length+2) by omega,F,hlen];simp;omega
 unfold mI;rw[i];simp
theorem Qv (k:UInt8) (m:Nat):(wK k 0).toNat≤(wK k m).toNat:=by
 unfold wK;by_cases h:k=52
 ·simp[h]
 ·simp[h];split<;>omega
theorem NR {b:Go.By}{a:Nat}{k:UInt8}(h:a+(wK k 0).toNat≤b.length):fG (bj (cy b a (wK k 0).toNat)) (wK k 0)=true:=by obtain⟨h1,g⟩:=wM h;rcases A7 k 0 with e|e<;>rw[e]at h1 g⊢ <;>simp at h1 g<;>simp[fG]<;>omega
theorem Ol {b:Go.By}{mk:Nat} :∀ {g:Go.By}{a:Nat}{r:List Int}{i:Nat},gG b mk g a= .ok (r,i)→
 r.length=g.length∧a+(qY g r).length≤i∧(mk=0→ot g r=true):=by
 intro g;induction g with
 |nil=>intro a r i h;cases h;exact⟨rfl,by simp[qY],fun _ =>rfl⟩
 |cons k g q=>
  intro a r i h;rw[gG]at h;cases l:gh b a (wK k mk).toNat with
  |error e=>rw[l]at h;cases h
  |ok z=>
   obtain⟨v,u⟩:=z;rw[l]at h;simp only at h;obtain⟨o,n,w⟩:=fL l;cases j:gG b mk g u with
   |error e=>rw[j]at h;cases h
   |ok z=>obtain⟨y,A⟩:=z;rw[j]at h;cases h;obtain⟨i1,i2,i3⟩:=q j;have hw:=Qv k mk;refine⟨by simp[i1],by simp only[qY,List.length_append,ax];omega,fun hm=> ?_⟩;subst hm;simp only[ot,i3 rfl,Bool.and_true];rw[n];exact NR o
theorem LB {b:Go.By}{mk t:Nat} :∀ {n a:Nat}{l:List (List Int)}{g:Nat},jV b mk (bF (t:Int)) n a= .ok (l,g)→
 l.length=n∧(∀r∈l,r.length=(bF (t:Int)).length)∧a+(pz t l).length≤g∧(mk=0→lQ t l=true):=by
 intro n;induction n with
 |zero=>intro a l g h;cases h;exact⟨rfl,by simp,by simp[pz],fun _ =>rfl⟩
 |succ n w=>
  intro a l g h;rw[jV]at h;cases o:gG b mk (bF (t:Int)) a with
  |error e=>rw[o]at h;cases h
  |ok z=>
   obtain⟨v,y⟩:=z;rw[o]at h;simp only at h;obtain⟨u,A,q⟩:=Ol o;cases j:jV b mk (bF (t:Int)) n y with
   |error e=>rw[j]at h;cases h
   |ok z=>
    obtain⟨D,E⟩:=z;rw[j]at h;cases h;obtain⟨i1,i2,i3,i4⟩:=w j;refine⟨by simp[i1],?_,by simp only[pz,List.singleton_append,List.flatMap_cons,List.length_append]at i3⊢;omega,fun hm=> ?_⟩
    ·intro r i;rcases List.mem_cons.1 (by simpa using i)with rfl|i
     ·exact u
     ·exact i2 r i
    ·simp only[lQ,List.singleton_append,List.all_cons,q hm,Bool.true_and];exact i4 hm
theorem LA {b:Go.By}{mk:Nat} :∀ {cs:List Int}{t a:Nat}{L:List (List (List Int))}{g:Nat},jU b mk cs t a= .ok (L,g)→
 L.map (fun l=>(l.length:Int))=cs.map (fun c=>(c.toNat:Int))∧iy t L=true∧a+(iE t L).length≤g∧(mk=0→allFit t L=true):=by
 intro cs;induction cs with
 |nil=>intro t a L g h;cases h;exact⟨rfl,rfl,by simp[iE],fun _ =>rfl⟩
 |cons c cs u=>
  intro t a L g h;rw[jU]at h;cases j:jV b mk (bF (t:Int)) c.toNat a with
  |error e=>rw[j]at h;cases h
  |ok z=>
   obtain⟨v,y⟩:=z;rw[j]at h;simp only at h;obtain⟨q,o,A,n⟩:=LB j;cases i:jU b mk cs (t+1) y with
   |error e=>rw[i]at h;cases h
   |ok z=>
    obtain⟨D,E⟩:=z;rw[i]at h;cases h;obtain⟨i1,i2,i3,i4⟩:=u i;refine⟨by simp[q,i1],?_,by simp only[iE,List.singleton_append,List.length_append];omega,fun hm=> ?_⟩
    ·simp only[List.singleton_append,iy,i2,Bool.and_true];exact List.all_eq_true.2 fun r w=>by simpa using o r w
    ·simp[allFit,n hm,i4 hm]
theorem Om {b:Go.By}{n:Nat} :∀ {m t a:Nat}{cs:List Int}{i:Nat},jX b n m t a= .ok (cs,i)→a≤b.length→
 cs.length=m∧ ∀L:List (List (List Int)),L.map (fun l=>(l.length:Int))=cs.map (fun c=>(c.toNat:Int))→a+(kP L).length≤i:=by
 intro m;induction m with
 |zero=>intro t a cs i h _;cases h;exact⟨rfl,fun L j=>by(have:L= []:=by simpa using j);subst this;simp[kP]⟩
 |succ m w=>
  intro t a cs i h ha;rw[jX]at h;have key:∀(v:Int) (g:Nat),(v.toNat=0∨a+2≤g)→a≤g→g≤b.length→gq [v] (jX b n m (t+1) g)= .ok (cs,i)→
   cs.length=m+1∧ ∀L:List (List (List Int)),L.map (fun l=>(l.length:Int))=cs.map (fun c=>(c.toNat:Int))→a+(kP L).length≤i:=by
   intro v g I A o h;cases q:jX b n m (t+1) g with
   |error e=>rw[q]at h;cases h
   |ok z=>
    obtain⟨H,J⟩:=z;rw[q]at h;cases h;obtain⟨i1,i2⟩:=w q o;refine⟨by simp[i1],fun L j=> ?_⟩;cases L with
    |nil=>simp at j
    |cons l L=>
     simp at j;have:=i2 L (by simpa using j.2);have D:(kP (l::L)).length=(sK l).length+(kP L).length:=by simp only[kP,List.flatMap_cons,List.length_append]
     rw[D];by_cases he:l= []
     ·rw[show sK l= [] by simp[sK,he],List.length_nil];omega
     ·have y:0<l.length:=List.length_pos_iff.2 he;rw[show sK l=bg l.length 2 by simp[sK,he],ax];omega
  split at h
  ·cases u:gh b a 2 with
   |error e=>rw[u]at h;cases h
   |ok z=>obtain⟨v,g⟩:=z;rw[u]at h;obtain⟨G,F,E⟩:=fL u;exact key v g (.inr (by omega)) (by omega) (by omega) h
  ·exact key 0 a (.inl rfl) (by omega) ha h
theorem Dw {b:Go.By}{en:Int}{T:List (List (List Int))}(h:mI b=(some (en,T),0,0)):
 ff T=true∧(dr T en).length≤b.length∧(b.getD 0 0=0→okW T en=true)∧(∀l∈T,l.length≤65535)∧fG en 2=true∧0<b.length:=by
 rcases mH b with⟨e,_,j⟩|⟨v,a,g,⟨_,j⟩|⟨ha,j⟩⟩
 ·rw[j]at h;cases h
 ·rw[j]at h;cases h
 rw[j]at h;cases h;have L:=By g;unfold kY at g;cases h1:fm b 0 3 with
 |error e=>rw[h1]at g;cases g
 |ok z=>
  obtain⟨mk,X⟩:=z;rw[h1]at g;simp only at g;cases A:fm b X 63 with
  |error e=>rw[A]at g;cases g
  |ok z=>
   obtain⟨H,V⟩:=z;rw[A]at g;simp only at g;obtain⟨p1,I,p3⟩:=fL (nK h1).1;obtain⟨q1,q2,Z⟩:=fL (nK A).1;cases o:jX b H.toNat 6 0 V with
   |error e=>rw[o]at g;cases g
   |ok z=>
    obtain⟨cs,E⟩:=z;rw[o]at g;simp only at g;cases y:gh b E 2 with
    |error e=>rw[y]at g;cases g
    |ok z=>
     obtain⟨M,U⟩:=z;rw[y]at g;simp only at g;obtain⟨G,F,Y⟩:=fL y;cases w:jU b mk.toNat cs 0 U with
     |error e=>rw[w]at g;cases g
     |ok z=>
      obtain⟨T',a5⟩:=z;rw[w]at g;cases g;obtain⟨t1,t2,t3,t4⟩:=LA w;obtain⟨Q,P⟩:=Om o (by omega);obtain⟨O,c4⟩:=Bx o (by omega);have c5:=P T t1;have u:T.length=6:=by have:=congrArg List.length t1;simpa[Q]using this
      have i:fG en 2=true:=by obtain⟨S,D⟩:=wM (b:=b) (a:=E) (n:=2) G;rw[←F]at S D;simp at D;simp[fG];omega
      refine⟨by simp[ff,u,t2],?_,fun h0=> ?_,fun l hl=> ?_,i,by omega⟩
      ·simp only[dr,List.length_append,List.length_cons,List.length_nil,ax];omega
      ·have q:mk.toNat=0:=by rw[I];rw[show bj (cy b ((0:Nat):Int) ((1:Nat):Int))=b[0].toNat from num_1 (by omega)];rw[List.getD_eq_getElem?_getD,List.getElem?_eq_getElem (by omega)]at h0;simp at h0;rw[h0];rfl
       simp[okW,t4 q,i]
      ·have:(l.length:Int)∈T.map (fun l=>(l.length:Int)):=List.mem_map.2 ⟨l,hl,rfl⟩;rw[t1]at this;obtain⟨c,K,J⟩:=List.mem_map.1 this;have:=O c K;omega
theorem Aj {b:Go.By}{a n:Nat}{e:Int×Int}(h:gh b a n= .error e):e.2≠0:=by rw[(Bw h).2];simp
theorem Pc {b:Go.By}{mk:Nat} :∀ {g:Go.By}{a:Nat}{e:Int×Int},gG b mk g a= .error e→e.2≠0:=by
 intro g;induction g with
 |nil=>intro a e h;cases h
 |cons k g l=>
  intro a e h;rw[gG]at h;cases j:gh b a (wK k mk).toNat with
  |error n=>rw[j]at h;cases h;exact Aj j
  |ok z=>
   obtain⟨v,o⟩:=z;rw[j]at h;simp only at h;cases i:gG b mk g o with
   |error n=>rw[i]at h;cases h;exact l i
   |ok z=>rw[i]at h;cases h
theorem MB {b:Go.By}{mk:Nat}{g:Go.By} :∀ {n a:Nat}{e:Int×Int},jV b mk g n a= .error e→e.2≠0:=by
 intro n;induction n with
 |zero=>intro a e h;cases h
 |succ n l=>
  intro a e h;rw[jV]at h;cases j:gG b mk g a with
  |error o=>rw[j]at h;cases h;exact Pc j
  |ok z=>
   obtain⟨v,q⟩:=z;rw[j]at h;simp only at h;cases i:jV b mk g n q with
   |error o=>rw[i]at h;cases h;exact l i
   |ok z=>rw[i]at h;cases h
theorem Mz {b:Go.By}{mk:Nat} :∀ {cs:List Int}{t a:Nat}{e:Int×Int},jU b mk cs t a= .error e→e.2≠0:=by
 intro cs;induction cs with
 |nil=>intro t a e h;cases h
 |cons c cs j=>
  intro t a e h;rw[jU]at h;cases i:jV b mk (bF (t:Int)) c.toNat a with
  |error l=>rw[i]at h;cases h;exact MB i
  |ok z=>
   obtain⟨v,n⟩:=z;rw[i]at h;simp only at h;cases g:jU b mk cs (t+1) n with
   |error l=>rw[g]at h;cases h;exact j g
   |ok z=>rw[g]at h;cases h
theorem Pd {b:Go.By}{i:Nat} :∀ {m t a:Nat}{e:Int×Int},jX b i m t a= .error e→e.2≠0:=by
 intro m;induction m with
 |zero=>intro t a e h;cases h
 |succ m l=>
  intro t a e h;rw[jX]at h;split at h
  ·cases j:gh b a 2 with
   |error n=>rw[j]at h;cases h;exact Aj j
   |ok z=>
    obtain⟨v,o⟩:=z;rw[j]at h;simp only at h;cases g:jX b i m (t+1) o with
    |error n=>rw[g]at h;cases h;exact l g
    |ok z=>rw[g]at h;cases h
  ·cases g:jX b i m (t+1) a with
   |error n=>rw[g]at h;cases h;exact l g
   |ok z=>rw[g]at h;cases h
theorem Cg {b:Go.By}{a:Nat}{most:Int}{e:Int×Int}(h:fm b a most= .error e):e.2≠0:=by
 rcases wB h with h|⟨h,_⟩
 ·exact Aj h
 ·rw[h];simp
theorem Pe {b:Go.By}{e:Int×Int}(g:kY b= .error e):e.2≠0:=by
 unfold kY at g;cases h1:fm b 0 3 with
 |error h=>rw[h1]at g;cases g;exact Cg h1
 |ok z=>
  obtain⟨mk,y⟩:=z;rw[h1]at g;simp only at g;cases n:fm b y 63 with
  |error h=>rw[n]at g;cases g;exact Cg n
  |ok z=>
   obtain⟨o,w⟩:=z;rw[n]at g;simp only at g;cases l:jX b o.toNat 6 0 w with
   |error h=>rw[l]at g;cases g;exact Pd l
   |ok z=>
    obtain⟨cs,v⟩:=z;rw[l]at g;simp only at g;cases j:gh b v 2 with
    |error h=>rw[j]at g;cases g;exact Aj j
    |ok z=>
     obtain⟨q,u⟩:=z;rw[j]at g;simp only at g;cases i:jU b mk.toNat cs 0 u with
     |error h=>rw[i]at g;cases g;exact Mz i
     |ok z=>rw[i]at g;cases g
theorem Gn (b:Go.By):(∃a e,mI b=(none,a,e)∧e≠0)∨ ∃en T,mI b=(some (en,T),0,0):=by
 rcases mH b with⟨e,h,g⟩|⟨v,a,h,⟨_,g⟩|⟨ha,g⟩⟩
 ·exact .inl ⟨_,_,g,Pe h⟩
 ·exact .inl ⟨_,_,g,by decide⟩
 ·exact .inr ⟨v.1,v.2,g⟩
end Rw
namespace Im
open Go Go.AW Tryz
theorem Nb (S:List Nat):aH prog [] S:=mixed
theorem KN (S:List Nat):aH prog [(2,(.step 0 (.alt 1 (.alt 2 (.alt 3 .done .none) .none) (.alt 2 (.read 1 (.alt 3 .done .none)) .none))))] S:=mixed
theorem aa.Fq {P:Program}{f:FuncId}{M:List AV}{σ:AS}{R O:AV→AS→Prop}(V:lB P f=true) (id k:Nat) {ty:TypeId}{cs:List AV}(e:TypeId) (A:σ id=some (.cells ty cs)) (K:k<cs.length) (T:cs.getD k .any= .ai)
 (h:∀F,σ F=none→aa P f M ((σ.set id (.cells ty (cs.set k (.an e [] (.tok F) true)))).set F (.tok 0)) R O):aa P f M σ R O:=by
 refine⟨V,fun G w vals D U=> ?_⟩;obtain⟨b,vs,u,q,E,g⟩:=D.cells id ty cs A;have I:ba P G (.an e [] .full true) (vs.getD k undef):=by have:=(g k K).1;rw[T]at this;generalize vs.getD k undef=v at this⊢;cases this;exact .jd ⟨none,rfl⟩
 obtain⟨r,i,S,Q⟩:=I.fM D;have n:id≠G.top:=by intro X;subst X;rw[D.fresh]at A;cases A
 have H:(σ.set G.top (.tok 0)) id=some (.cells ty cs):=by simp[AS.set,n,A]
 have l:=S.tu (cs':=cs.set k (.an e [] (.tok G.top) true)) H (i.inj _ _ u) q (by simp) (fun j L=>by
  simp at L;by_cases o:j=k
  ·subst o;rw[List.getD_eq_getElem?_getD,List.getElem?_set_self K];exact Q
  ·rw[List.getD_eq_getElem?_getD,List.getElem?_set_ne (fun e=>o e.symm),←List.getD_eq_getElem?_getD];exact((g j L).1).mono i)
 rw[AS.set_comm (fun e=>n e.symm)]at l;refine((h G.top D.fresh).run _ w vals l (U.mono i)).mono fun x w' he=> ?_;unfold kS at he⊢;split at he
 ·obtain⟨J,σ',r,u,q,E,g⟩:=he;exact⟨J,σ',r,i.trans u,q,E,g⟩
 ·obtain⟨x,y,J,σ',r,u,q,E,g⟩:=he;exact⟨x,y,J,σ',r,i.trans u,q,E,g⟩
 ·exact he.elim
theorem DN (l j:Nat) (σ:AS) (K:AS→Prop) (i:∀id,σ id=none→K (σ.set id (.cells 99 [.sc (.int .i64 0),.sc (.int .i64 0),.sc (.int .i64 0)]))):bS prog 43 [.ptr l 0,.ptr j 0] σ none K:=by
 refine bS.of func43 rfl rfl (by simp[ntmps43]) (by simp[ntmps43]) ?_;refine br.sp rfl (il.mS (by simp[ntmps43]) underlying99 trivial (by kernel_rfl) rfl ?_);refine br.rest ?_;have h:aw prog 99= .agg [.sc (.int .i64 0),.sc (.int .i64 0),.sc (.int .i64 0)]:=by kernel_rfl
 simp-implicitDefEqProofs [h,ntmps43];intro id g;refine gO Nb tI tI ?_;exact i id g
def Mi:bZ:=⟨[],true,[],true,[],true,0⟩
def Mv (f:iY):AV:= .agg [.sc (.int .i64 f.1),.sc (.int .i64 f.2.1),.sc (.int .i64 f.2.2)]
theorem rK (i h:Nat) (f:iY) (F E D A y w v:AV) (σ:AS) (K:AS→Prop) (u:σ i=some (.cells 26 [F,E,D,A])) (q:σ h=some (.cells 39 [y,w,v])) (j:i≠h)
 (H:∀id,σ id=none→K (((σ.set id (.cells 99 [.sc (.int .i64 f.1),.sc (.int .i64 f.2.1),.sc (.int .i64 f.2.2)])).set i (.cells 26 [.ai,.ai,.ai,.sc (.int .i64 0)])).set h (.cells 39 [.sc (.int .i64 f.1),.sc (.int .i64 f.2.1),.sc (.int .i64 f.2.2)]))):
 bS prog 43 [.ptr i 0,.ptr h 0] σ (some (pX f)) K:=by
 refine bS.of func43 rfl rfl (by simp[ntmps43]) (by simp[ntmps43]) ?_;refine br.sp rfl (il.oR (by simp[ntmps43]) underlying99 trivial rfl ?_);refine br.rest ?_;simp-implicitDefEqProofs [ntmps43,pX,recV];intro id g;have o:¬i=id:=nq u g;have n:¬h=id:=nq q g;have l:=aA o;have G:=aA n;refine gO (S:= [2]) KN tI tI ?_
 with_reducible apply ae.aR (id:=2) (t:=b7.step 0 (b7.alt 1 (b7.alt 2 (b7.alt 3 b7.done b7.none) b7.none) (b7.alt 2 (b7.read 1 (b7.alt 3 b7.done b7.none)) b7.none)))
 ·exact mixed
 ·kernel_rfl
 ·kernel_rfl
 ·exact Rw.ak.RQ
 simp-implicitDefEqProofs [u,q,j.symm,o,n,l];all_goals exact H id g
def Ss (X:Except iY bZ) (σ:AS) (r:AV) (σ':AS):Prop:=
 (∃g nl,X= .ok g∧(nl=true→g.ts= [])∧ao (.bQ [pD { g with tn:=nl },Mv (0,0,0)]) σ r σ')∨(∃f,X= .error f∧ao (.bQ [pD Mi,Mv f]) σ r σ')
theorem N1 {T:List (List (List Int))}(h:T.length=6):T= [tb T 0,tb T 1,tb T 2,tb T 3,tb T 4,tb T 5]:=by
 match T,h with
 |[a,b,c,d,e,f],_ =>rfl
theorem EX {b:Go.By}{mk:Nat} :∀ {g:Go.By}{a:Nat}{l:List Int}{n:Nat},Rw.gG b mk g a= .ok (l,n)→ ∀v∈l,0≤v∧v<4294967296
 |[],a,l,n,h=>by simp only[Rw.gG]at h;cases h;simp
 |c::g,a,l,n,h=>by
  rw[Rw.gG]at h;cases j:Rw.gh b a (wK c mk).toNat with
  |error e=>rw[j]at h;cases h
  |ok z=>
   obtain⟨v,u⟩:=z;rw[j]at h;simp only at h;cases i:Rw.gG b mk g u with
   |error e=>rw[i]at h;cases h
   |ok z=>
    obtain⟨y,A⟩:=z;rw[i]at h;cases h;obtain⟨q,o,_⟩:=Rw.fL j;have hw:=Rw.A7 c mk;have:=Rw.Bk q (by omega);rw[←o]at this;intro w hw;rcases List.mem_cons.1 hw with rfl|hw
    ·exact this
    ·exact EX i w hw
theorem EW {b:Go.By}{mk:Nat}{g:Go.By} :∀ {n a:Nat}{l:List (List Int)}{o:Nat},Rw.jV b mk g n a= .ok (l,o)→ ∀r∈l,∀v∈r,0≤v∧v<4294967296
 |0,a,l,o,h=>by simp only[Rw.jV]at h;cases h;simp
 |n+1,a,l,o,h=>by
  rw[Rw.jV]at h;cases j:Rw.gG b mk g a with
  |error e=>rw[j]at h;cases h
  |ok z=>
   obtain⟨v,q⟩:=z;rw[j]at h;simp only at h;cases i:Rw.jV b mk g n q with
   |error e=>rw[i]at h;cases h
   |ok z=>
    obtain⟨u,y⟩:=z;rw[i]at h;cases h;intro w hw;rcases List.mem_cons.1 hw with rfl|hw
    ·exact EX j
    ·exact EW i w hw
theorem EG {b:Go.By}{mk:Nat} :∀ {cs:List Int}{t a:Nat}{l:List (List (List Int))}{j:Nat},Rw.jU b mk cs t a= .ok (l,j)→ ∀x∈l,∀r∈x,∀v∈r,0≤v∧v<4294967296
 |[],t,a,l,j,h=>by simp only[Rw.jU]at h;cases h;simp
 |c::cs,t,a,l,j,h=>by
  rw[Rw.jU]at h;cases i:Rw.jV b mk (bF (t:Int)) c.toNat a with
  |error e=>rw[i]at h;cases h
  |ok z=>
   obtain⟨v,n⟩:=z;rw[i]at h;simp only at h;cases g:Rw.jU b mk cs (t+1) n with
   |error e=>rw[g]at h;cases h
   |ok z=>
    obtain⟨o,q⟩:=z;rw[g]at h;cases h;intro w hw;rcases List.mem_cons.1 hw with rfl|hw
    ·exact EW i
    ·exact EG g w hw
theorem MZ {b:Go.By}{en:Int}{T:List (List (List Int))}{a:Nat}(h:Rw.kY b= .ok ((en,T),a)):∀x∈T,∀r∈x,∀v∈r,0≤v∧v<4294967296:=by
 unfold Rw.kY at h;split at h
 ·cases h
 split at h
 ·cases h
 split at h
 ·cases h
 split at h
 ·cases h
 split at h
 ·cases h
 rename_i g;cases h;exact EG g
theorem NY {b:Go.By}{en:Int}{T:List (List (List Int))}(h:Rw.mI b=(some (en,T),0,0)):
 T.length=6∧(0≤en∧en<4294967296)∧oc 5 (tb T 0)∧oc 3 (tb T 1)∧oc 6 (tb T 2)∧oc 2 (tb T 3)∧oc 1 (tb T 4)∧oc 1 (tb T 5):=by
 obtain⟨h1,_,_,A,y,_⟩:=Rw.Dw h;have hf:∀x∈T,∀r∈x,∀v∈r,0≤v∧v<4294967296:=by
  rcases Rw.mH b with⟨e,_,j⟩|⟨v,a,w,⟨_,j⟩|⟨ha,j⟩⟩
  ·rw[j]at h;cases h
  ·rw[j]at h;cases h
  rw[j]at h;cases h;exact MZ w
 have q:T.length=6∧Rw.iy 0 T=true:=by simpa[Rw.ff]using h1
 have o:=Rw.sC y;have g:∀k n,(bF (k:Nat)).length=n→k<6→oc n (tb T k):=fun k n u D=>by
  have i:T[k]? =some T[k]:=List.getElem?_eq_getElem (by omega);have ht:tb T k=T[k]:=by unfold tb;rw[List.getD_eq_getElem?_getD,i];rfl
  have hm:T[k]∈T:=List.getElem_mem _;rw[ht];exact⟨A _ hm,fun r l=>⟨by rw[←u];exact Rw.G3 q.2 i r l,hf _ hm r l⟩⟩
 exact⟨q.1,⟨o.1,o.2.1⟩,g 0 5 rfl (by omega),g 1 3 rfl (by omega),g 2 6 rfl (by omega),g 3 2 rfl (by omega),g 4 1 rfl (by omega),g 5 1 rfl (by omega)⟩
def d0:LD:=⟨[],[],.ai,[],[]⟩
theorem LI.start {f:FuncId}{e:LE}{S:AS}{id:Nat}{R F:AV→AS→Prop}(w:lB prog f=true) (G:Vo e) (h0:S id=none)
 (h:∀k τ,LI k e d0 S τ→k.id=id→aa prog f [.ptr k.id 0] τ R F):
 aa prog f [.ptr id 0] (S.set id (.cells 108 [.an 5 (e.R.map u8) .aE e.rn,.an 5 (e.N.map u8) .aE e.nn,.an 5 (e.B.map u8) .aE e.bn,.an 5 (e.C.map u8) .aE e.cn,
  .sc (.int .i64 e.en),.an 94 [kT e.t0,kT e.t1,kT e.t2,kT e.t3,kT e.t4,kT e.t5] .aE false,.ai,.ai,.ai,.ai,.ai,.sc (.int .i64 0)])) R F:=by
 refine aa.Fq w id 6 49 (AS.aj _ _ _) (by simp) rfl fun t1 h1=> ?_;have n1:id≠t1:=by rintro rfl;simp at h1
 have s1:S t1=none:=by rw[AS.ad _ _ n1.symm]at h1;exact h1
 rw[AS.set_set];refine aa.Fq w id 7 47 (by rw[AS.ad _ _ n1,AS.aj]) (by simp) rfl fun t2 q=> ?_;have n2:t2≠t1:=by rintro rfl;simp at q
 have g:id≠t2:=by rintro rfl;rw[AS.ad _ _ n1]at q;simp at q
 have s2:S t2=none:=by rw[AS.ad _ _ n2,AS.ad _ _ g.symm]at q;exact q
 rw[AS.set_comm n1.symm,AS.set_set];refine aa.Fq w id 9 56 (by rw[AS.ad _ _ g,AS.ad _ _ n1,AS.aj]) (by simp) rfl fun t3 l=> ?_;have v:t3≠t2:=by rintro rfl;simp at l
 have n:id≠t3:=by rintro rfl;rw[AS.ad _ _ g,AS.ad _ _ n1]at l;simp at l
 have D:t3≠t1:=by rintro rfl;rw[AS.ad _ _ v]at l;simp at l
 have s3:S t3=none:=by rw[AS.ad _ _ v,AS.ad _ _ D,AS.ad _ _ n.symm]at l;exact l
 rw[AS.set_comm g.symm,AS.set_comm n1.symm,AS.set_set];refine aa.Fq w id 10 53 (by rw[AS.ad _ _ n,AS.ad _ _ g,AS.ad _ _ n1,AS.aj]) (by simp) rfl fun t4 i=> ?_;have o:t4≠t3:=by rintro rfl;simp at i
 have A:id≠t4:=by rintro rfl;rw[AS.ad _ _ n,AS.ad _ _ g,AS.ad _ _ n1]at i;simp at i
 have u:t4≠t2:=by rintro rfl;rw[AS.ad _ _ o]at i;simp at i
 have y:t4≠t1:=by rintro rfl;rw[AS.ad _ _ o,AS.ad _ _ u]at i;simp at i
 have s4:S t4=none:=by rw[AS.ad _ _ o,AS.ad _ _ u,AS.ad _ _ y,AS.ad _ _ A.symm]at i;exact i
 rw[AS.set_comm n.symm,AS.set_comm g.symm,AS.set_comm n1.symm,AS.set_set];refine h ⟨id,t1,t2,t3,t4⟩ _ ⟨?_,?_,?_,?_,?_,?_,?_,?_,G⟩ rfl
 ·simp only;rw[AS.ad _ _ A,AS.ad _ _ n,AS.ad _ _ g,AS.ad _ _ n1,AS.aj];rfl
 ·simp only;rw[AS.ad _ _ y.symm,AS.ad _ _ D.symm,AS.ad _ _ n2.symm,AS.aj];rfl
 ·simp only;rw[AS.ad _ _ u.symm,AS.ad _ _ v.symm,AS.aj];rfl
 ·simp only;rw[AS.ad _ _ o.symm,AS.aj];rfl
 ·simp only;rw[AS.aj];rfl
 ·exact AS.ah (AS.ah (AS.ah (AS.ah (AS.ah (lR _) h0) s1) s2) s3) s4
 ·simp[n1,g,n,A,n2.symm,D.symm,y.symm,v.symm,u.symm,o.symm]
 ·intro j E;simp only[List.mem_cons,List.not_mem_nil,or_false]at E;rcases E with rfl|rfl|rfl|rfl|rfl<;>assumption
theorem lI (S:List Nat):aH prog [] S:=mixed
theorem QC {T:List (List (List Int))}(h:T.length=6):(T.map fun l=>Rw.lV (l.map fun r=>(r,decide (r= [])),decide (l= [])))= [kT (tb T 0),kT (tb T 1),kT (tb T 2),kT (tb T 3),kT (tb T 4),kT (tb T 5)]:=by
 have hf:∀l:List (List Int),Rw.lV (l.map fun r=>(r,decide (r= [])),decide (l= []))=kT l:=fun l=>by simp[Rw.lV,kT,Rw.iV,uZ,Function.comp_def]
 rw[show(fun l:List (List Int)=>Rw.lV (l.map fun r=>(r,decide (r= [])),decide (l= [])))=kT from funext hf]
 conv=>lhs;rw[N1 h]
 rfl
theorem Mb (b:Go.By) (o:cL) (nl:Bool) (b1:nl=true→b= []) (hl:b.length≤140737488355328) (σ:AS):
 aa prog 16 [.an 5 (b.map u8) o nl] σ (Ss (BW b) σ) No:=by
 have ap:=fun σ=>St.Il b o nl b1 σ hl;have a9:=fun a p x σ=>qN a p x σ;obtain⟨X,P⟩:∃X,BW b=X:=⟨_,rfl⟩;rw[P];unfold BW at P;have O:=St.Gf b;have M:=St.Dh b;have a1:= @St.Di b;obtain⟨K,V,U,Q,a0,e0,hS⟩:=St.Bg b;rw[hS]at ap P O M a1;simp only[St.RS,St.zz,St.sV,List.map_cons,List.map_nil]at ap;simp only at P a1 O M;refine aa.jj func16 rfl rfl (by simp[ntmps16]) (fun G1=> ?_);apply lg.seq;have a7:f16.ntmps=38:=rfl;simp-implicitDefEqProofs only[a7];refine gO lI tI tI ?_;intro n av;refine gO lI tI tI ?_;intro id3 v ar;have i:=aA v;apply lg.defer (by simp) (by decide+kernel);intro D;simp-implicitDefEqProofs only[a7];obtain⟨B,bb,H,G,hle⟩:∃B:AS,((σ.set n (.cells 26 [.ai,.ai,.ai,.sc (.int .i64 0)])).set id3 (.cells 39 [.sc (.int .i64 0),.sc (.int .i64 0),.sc (.int .i64 0)]))=B∧B n=some (.cells 26 [.ai,.ai,.ai,.sc (.int .i64 0)])∧B id3=some (.cells 39 [.sc (.int .i64 0),.sc (.int .i64 0),.sc (.int .i64 0)])∧
  ∀S:AS,(∀j,j≠n→j≠id3→ ∀y,B j=some y→S j=some y)→AS.le σ S:=by
  refine⟨_,rfl,by simp[i],by simp,?_⟩;intro S h j x u;have e4:j≠n:=nq av u;have Z:j≠id3:=nq ar u;exact h j e4 Z x (by simp[AS.set,e4,Z,u])
 simp only[bb];clear bb;refine gO lI tI @ap ?_;intro F E;have bv:¬F=n:=nq H E;have bs:¬F=id3:=nq G E;have a6:=aA bv;have a4:=aA bs;by_cases he:e0=0;rotate_left
 ·have I:X= .error (e0,0,a0):=by rw[←P,if_pos he]
  refine gO lI @he @a9 ?_;refine rK n id3 (e0,0,a0) .ai .ai .ai (.sc (.int .i64 0)) (.sc (.int .i64 0)) (.sc (.int .i64 0)) (.sc (.int .i64 0)) _ _ (by simp[a6,H]) (by simp[a4,G]) i ?_;intro w l;simp-implicitDefEqProofs [i];have f2:∀j,B j≠none→j≠w:=fun j u=>by
   rintro rfl;have h4:j≠F:=by rintro rfl;exact u E
   rw[AS.ad _ _ h4]at l;exact u l
  refine⟨_,σ,by unfold pD Mi Mv;exact cq (St.lG (by simp) (by simp) (by simp) (Wk.refl _)) (Wk.refl _),?_,.inr ⟨_,I,rfl,rfl⟩⟩;refine hle _ fun j e4 Z y u=> ?_;have e6:j≠w:=f2 j (by rw[u];simp);have e7:j≠F:=nq E u;rw[AS.ad _ _ Z,AS.ad _ _ e4,AS.ad _ _ e6,AS.ad _ _ e7];exact u
 subst he;have cs:=a1 rfl;rw[if_neg (by simp)]at P;have L:=fun σ=>Rw.HV K.1 .aE K.2 (M K (by simp)) (by have:=O K (by simp);omega) σ;simp only[Jv,EM,List.getD_cons_zero]at P;rcases Rw.Gn K.1 with⟨ra,re,hR,b0⟩|⟨en,T,hR⟩
 ·rw[hR]at P L;have I:X= .error (re,1,ra):=P.symm;simp only[Rw.N2]at L;refine gO lI tI @L ?_;intro A hn q;have al:¬A=n:=nq H q;have af:¬A=id3:=nq G q;have a5:=aA al;have a3:=aA af;refine gO lI @b0 @a9 ?_;refine rK n id3 (re,1,ra) .ai .ai .ai (.sc (.int .i64 0)) (.sc (.int .i64 0)) (.sc (.int .i64 0)) (.sc (.int .i64 0)) _ _ (by simp[a6,a5,H]) (by simp[a4,a3,G]) i ?_;intro w l;simp-implicitDefEqProofs [i];have f2:∀j,B j≠none→j≠w:=fun j u=>by
   rintro rfl;have h4:j≠F:=by rintro rfl;exact u E
   have h7:j≠A:=by rintro rfl;exact u q
   rw[AS.ad _ _ h7,AS.ad _ _ h4]at l;exact u l
  refine⟨_,σ,by unfold pD Mi Mv;exact cq (St.lG (by simp) (by simp) (by simp) (Wk.refl _)) (Wk.refl _),?_,.inr ⟨_,I,rfl,rfl⟩⟩;refine hle _ fun j e4 Z y u=> ?_;have e6:j≠w:=f2 j (by rw[u];simp);have e7:j≠F:=nq E u;have e8:j≠A:=nq q u;rw[AS.ad _ _ Z,AS.ad _ _ e4,AS.ad _ _ e6,AS.ad _ _ e8,AS.ad _ _ e7];exact u
 rw[hR]at P L;simp only at P;obtain⟨b4,b3,q0,q1,q2,q3,q4,q5⟩:=NY hR;simp only[Rw.N2,Rw.QD,QC b4]at L;obtain⟨e,hE⟩:∃e,PY [K,V,U,Q] en T=e:=⟨_,rfl⟩;have b6:Vo e:=by
  rw[←hE];exact⟨by have:=O V (by simp);simp only[PY,EM,List.getD_cons_zero,List.getD_cons_succ];omega,by have:=O U (by simp);simp only[PY,EM,List.getD_cons_zero,List.getD_cons_succ];omega,by have:=O Q (by simp);simp only[PY,EM,List.getD_cons_zero,List.getD_cons_succ];omega,
   M V (by simp),M U (by simp),M Q (by simp),b3,q0,q1,q2,q3,q4,q5⟩
 refine gO lI tI @L ?_;intro A hn q;have al:¬A=n:=nq H q;have af:¬A=id3:=nq G q;have a5:=aA al;have a3:=aA af;have b2:=aA hn;refine gO lI @b2 tI ?_;intro am ca cb Y;have c9:¬am=n:=nq H Y;have c8:¬am=id3:=nq G Y;have hc:=LI.start (f:=47) (S:=(B.set F (.cells 85 [.an 5 (K.1.map u8) .aE K.2,.an 5 (V.1.map u8) .aE V.2,.an 5 (U.1.map u8) .aE U.2,.an 5 (Q.1.map u8) .aE Q.2])).set A (.cells 63 [.sc (.int .i64 en),.an 94 [kT (tb T 0),kT (tb T 1),kT (tb T 2),kT (tb T 3),kT (tb T 4),kT (tb T 5)] .aE false])) (id:=am) (by kernel_rfl) b6
  (by rw[AS.ad _ _ ca,AS.ad _ _ cb];exact Y) (fun k τ h _ =>h.image rfl rfl rfl rfl rfl)
 have J:AS.le B ((B.set F (.cells 85 [.an 5 (K.1.map u8) .aE K.2,.an 5 (V.1.map u8) .aE V.2,.an 5 (U.1.map u8) .aE U.2,.an 5 (Q.1.map u8) .aE Q.2])).set A (.cells 63 [.sc (.int .i64 en),.an 94 [kT (tb T 0),kT (tb T 1),kT (tb T 2),kT (tb T 3),kT (tb T 4),kT (tb T 5)] .aE false])):=
  AS.ah (AS.ah (lR _) E) q
 rw[←hE]at hc;refine ag.of hc ?_ ?_
 ·generalize ((B.set F (.cells 85 [.an 5 (K.1.map u8) .aE K.2,.an 5 (V.1.map u8) .aE V.2,.an 5 (U.1.map u8) .aE U.2,.an 5 (Q.1.map u8) .aE Q.2])).set A (.cells 63 [.sc (.int .i64 en),.an 94 [kT (tb T 0),kT (tb T 1),kT (tb T 2),kT (tb T 3),kT (tb T 4),kT (tb T 5)] .aE false]))=S at J⊢;rintro r τ' ⟨g,hg,be,a8,rfl,rfl⟩;have I:X= .ok g:=P.symm.trans hg;have k2:=J _ _ H;have k3:=J _ _ G;simp only[b9];simp-implicitDefEqProofs [k2,k3,v];refine gO lI tI tI ?_;refine DN n id3 _ _ ?_;intro w l;have f2:¬n=w:=by rintro rfl;rw[AS.ad _ _ i,AS.aj]at l;cases l
  have f3:¬id3=w:=by rintro rfl;rw[AS.aj]at l;cases l
  simp-implicitDefEqProofs [i,f2,f3];refine⟨_,σ,Wk.refl _,?_,.inl ⟨g,be,I,a8,rfl,rfl⟩⟩;refine hle _ fun j e4 Z y u=> ?_;have e6:j≠w:=by rintro rfl;rw[AS.ad _ _ Z,AS.ad _ _ e4,J _ _ u]at l;cases l
  rw[AS.ad _ _ e6,AS.ad _ _ Z,AS.ad _ _ e4];exact J _ _ u
 ·generalize ((B.set F (.cells 85 [.an 5 (K.1.map u8) .aE K.2,.an 5 (V.1.map u8) .aE V.2,.an 5 (U.1.map u8) .aE U.2,.an 5 (Q.1.map u8) .aE Q.2])).set A (.cells 63 [.sc (.int .i64 en),.an 94 [kT (tb T 0),kT (tb T 1),kT (tb T 2),kT (tb T 3),kT (tb T 4),kT (tb T 5)] .aE false]))=S at J⊢;rintro p τ' ⟨f,hf,rfl,b5⟩;have I:X= .error f:=P.symm.trans hf;have ac:=AS.le_trans J b5;simp-implicitDefEqProofs;refine rK n id3 f .ai .ai .ai (.sc (.int .i64 0)) (.sc (.int .i64 0)) (.sc (.int .i64 0)) (.sc (.int .i64 0)) _ _ (ac _ _ H) (ac _ _ G) i ?_;intro w l;simp-implicitDefEqProofs [i];refine⟨_,σ,by unfold pD Mi Mv;exact cq (St.lG (by simp) (by simp) (by simp) (Wk.refl _)) (Wk.refl _),?_,.inr ⟨_,I,rfl,rfl⟩⟩;refine hle _ fun j e4 Z y u=> ?_;have e6:j≠w:=by rintro rfl;rw[ac _ _ u]at l;cases l
  rw[AS.ad _ _ Z,AS.ad _ _ e4,AS.ad _ _ e6];exact ac _ _ u
end Im
end Go.Proofs.YtknalmoackcpbaaGreat
