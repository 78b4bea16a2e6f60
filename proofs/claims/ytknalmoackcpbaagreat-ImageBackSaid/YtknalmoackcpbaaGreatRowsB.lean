/- Own. -/
import Derived.Test.YtknalmoackcpbaaGreatIm4
set_option maxRecDepth 100000
set_option maxHeartbeats 3200000
set_option linter.all false
namespace Go.Proofs.YtknalmoackcpbaaGreat
namespace Rw
open Go Go.AW Tryz
abbrev jS:b7:=(.step 0 (.alt 1 (.alt 2 (.step 3 (.alt 4 (.alt 5 .done .none) .none)) (.alt 4 (.alt 2 (.step 3 (.alt 5 .done .none)) .none) .none)) (.alt 2 (.alt 1 (.step 3 (.alt 4 (.alt 5 .done .none) .none)) (.alt 4 (.alt 1 (.step 3 (.alt 5 .done .none)) .none) .none)) (.alt 4 (.alt 1 (.alt 2 (.step 3 (.alt 5 .done .none)) .none) (.alt 2 (.alt 1 (.step 3 (.alt 5 .done .none)) .none) .none)) .none))))
abbrev jQ:b7:=(.step 0 (.step 2 (.step 3 (.step 5 (.step 8 (.step 9 (.alt 1 (.alt 4 (.step 6 (.alt 7 (.alt 10 (.step 11 (.alt 12 (.step 13 (.alt 14 .done .none)) .none)) .none) (.alt 10 (.step 11 (.read 7 (.alt 12 (.step 13 (.alt 14 .done .none)) .none))) .none))) (.alt 10 (.step 11 (.read 4 (.step 6 (.read 7 (.alt 12 (.step 13 (.alt 14 .done .none)) .none))))) .none)) (.alt 4 (.step 6 (.alt 1 (.alt 7 (.alt 10 (.step 11 (.alt 12 (.step 13 (.alt 14 .done .none)) .none)) .none) (.alt 10 (.step 11 (.read 7 (.alt 12 (.step 13 (.alt 14 .done .none)) .none))) .none)) (.alt 7 (.alt 1 (.alt 10 (.step 11 (.alt 12 (.step 13 (.alt 14 .done .none)) .none)) .none) (.alt 10 (.step 11 (.alt 1 (.alt 12 (.step 13 (.alt 14 .done .none)) .none) (.alt 12 (.read 1 (.step 13 (.alt 14 .done .none))) .none))) .none)) (.alt 10 (.step 11 (.read 7 (.alt 1 (.alt 12 (.step 13 (.alt 14 .done .none)) .none) (.alt 12 (.read 1 (.step 13 (.alt 14 .done .none))) .none)))) .none)))) (.alt 10 (.step 11 (.read 4 (.step 6 (.read 7 (.alt 1 (.alt 12 (.step 13 (.alt 14 .done .none)) .none) (.alt 12 (.read 1 (.step 13 (.alt 14 .done .none))) .none)))))) .none)))))))))
theorem cf (S:List Nat):aH prog [(10,jS),(16,jQ)] S:=mixed
def jX (b:Go.By) (g:Nat):Nat→Nat→Nat→Except (Int×Int) (List Int×Nat)
 |0,_,a=> .ok ([],a)
 |m+1,t,a=>if g/2^t%2=1 then(match gh b a 2 with
  |.error e=> .error e
  |.ok (v,h)=>gq [v] (jX b g m (t+1) h))
  else gq [0] (jX b g m (t+1) a)
def jV (b:Go.By) (mk:Nat) (g:Go.By):Nat→Nat→Except (Int×Int) (List (List Int)×Nat)
 |0,a=> .ok ([],a)
 |n+1,a=>match gG b mk g a with
  |.error e=> .error e
  |.ok (l,h)=>gq [l] (jV b mk g n h)
def jU (b:Go.By) (mk:Nat):List Int→Nat→Nat→Except (Int×Int) (List (List (List Int))×Nat)
 |[],_,a=> .ok ([],a)
 |c::cs,t,a=>match jV b mk (bF (t:Int)) c.toNat a with
  |.error e=> .error e
  |.ok (l,g)=>gq [l] (jU b mk cs (t+1) g)
def kY (b:Go.By):Except (Int×Int) ((Int×List (List (List Int)))×Nat):=
 match fm b 0 3 with
 |.error e=> .error e
 |.ok (mk,n)=>match fm b n 63 with
  |.error e=> .error e
  |.ok (g,l)=>match jX b g.toNat 6 0 l with
   |.error e=> .error e
   |.ok (cs,j)=>match gh b j 2 with
    |.error e=> .error e
    |.ok (en,i)=>match jU b mk.toNat cs 0 i with
     |.error e=> .error e
     |.ok (T,h)=> .ok ((en,T),h)
theorem se {α:Type}(d:List α) (v:α) (x:Except (Int×Int) (List α×Nat)):gq d (gq [v] x)=gq (d++ [v]) x:=by
 cases x with
 |error e=>rfl
 |ok y=>obtain⟨l,a⟩:=y;simp[gq]
theorem wD {α:Type}(x:Except (Int×Int) (List α×Nat)):gq [] x=x:=by
 cases x with
 |error e=>rfl
 |ok y=>obtain⟨l,a⟩:=y;rfl
def QD (x:Int×List (List (List Int))):AV:= .agg [.sc (.int .i64 x.1),.an 94 (x.2.map fun l=>lV (l.map fun r=>(r,decide (r= [])),decide (l= []))) .aE false]
theorem Pv (g t:Nat) (ht:t<6) (h:g≤63):IntKind.i64.wrap (lF 64 ((g:Int)/2^min t 64) 1)=((g/2^t%2:Nat):Int):=by
 have h1:(g:Int)/2^t=((g/2^t:Nat):Int):=by simp
 have j:g/2^t≤63:=Nat.le_trans (Nat.div_le_self _ _) h;rw[show min t 64=t by omega,h1];generalize g/2^t=q at*;have i:=jA (w:=64) (a:=(q:Int)) 1 (by omega) (by(have e:(2:Int)^64=18446744073709551616:=by decide);omega) (by omega);rw[show(2:Int)^1-1=1 by decide,show(2:Int)^1=2 by decide]at i;rw[i,ay (by omega) (by omega)];omega
theorem FJ {α:Type}(A:List α) (x v:α) (C:List α):List.take A.length (A++x::C)++v::List.drop (A.length+1) (A++x::C)=A++v::C:=by
 induction A with
 |nil=>simp
 |cons a A g=>simp
def Jk (I:Fr→AS→Prop) (s:Fr) (σ:AS):Prop:= ∃s1 g,aS prog s s1∧AS.le g σ∧I s1 g
theorem ae.Jk {n:Nat}{ds:List Deferred}{c y:Code}{Q j:AQ}{s:Fr}{σ:AS}(I:Fr→AS→Prop) (h1:ae prog n ds c (dP (Jk I) j) s σ) (l:∀s1 g,I s1 g→ae prog n ds y Q s1 g):ae prog n ds c (dP (ae prog n ds y Q) j) s σ:=
 ae.mono h1 fun e s σ h=>by
  cases e with
  |normal=>obtain⟨s1,g,u,q,o⟩:=h;exact(l s1 g o).weaken u q
  |exit i=>exact h
  |ret=>exact h
  |panic v=>exact h
def Wd (b:Go.By) (nl:Bool) (id bq i h a:Nat) (S:AS) (s1:Fr) (g:AS):Prop:=
 ∃(w id6 l:Nat) (en:Int),gh b a 2= .ok (en,l)∧S w=none∧S id6=none∧ ¬w=id6∧g id=some (bC b l nl)∧g w=some (.cells 94 (jv 6 .ai))∧g id6=some (.cells 63 [.sc (.int .i64 en),.fT w 0 6 6])∧
  (∀j,j≠id→ ∀y,S j=some y→g j=some y)∧s1=jJ [(0,.ptr bq 0),(2,.ptr i 0),(4,.ptr h 0),(6,.ptr id6 0)]
theorem Bv {b:Go.By}{mk:Nat} :∀ {g:Go.By}{a:Nat}{l:List Int}{i:Nat},gG b mk g a= .ok (l,i)→a≤b.length→i≤b.length:=by
 intro g;induction g with
 |nil=>intro a l i h ha;cases h;exact ha
 |cons k g o=>
  intro a l i h ha;rw[gG]at h;cases n:gh b a (wK k mk).toNat with
  |error e=>rw[n]at h;cases h
  |ok z=>
   obtain⟨v,q⟩:=z;rw[n]at h;simp only at h;obtain⟨y,w,u⟩:=fL n;cases j:gG b mk g q with
   |error e=>rw[j]at h;cases h
   |ok z=>obtain⟨A,D⟩:=z;rw[j]at h;cases h;exact o j (by omega)
theorem Mg {σ:AS}{id w g:Nat}{A v C u K q:bN}(h1:¬id=w) (D:¬id=g) (o:¬w=g):AS.le (((σ.set id A).set w C).set g K) ((((((σ.set id v).set w u).set g q).set id A).set g K).set w C):=by
 intro j y h;by_cases i:j=w
 ·subst i;simpa[AS.set,o]using h
 by_cases l:j=g
 ·subst l;simpa[AS.set,i]using h
 by_cases n:j=id
 ·subst n;simpa[AS.set,i,l]using h
 ·simpa[AS.set,i,l,n]using h
theorem Sq {P:Program}{x g:AV}(h:AV.Wk P x g):∀(A C:List AV) (k:Nat),AV.Wk P ((A++x::C).getD k .any) ((A++g::C).getD k .any):=by
 intro A C;induction A with
 |nil=>
  intro k;cases k with
  |zero=>exact h
  |succ k=>exact Wk.refl _
 |cons a A i=>
  intro k;cases k with
  |zero=>exact Wk.refl _
  |succ k=>exact i k
theorem ae.D3 {P:Program}{n:Nat}{ds:List Deferred}{Q:AQ}{s:Fr}{σ:AS}{c:Code}(l id:Nat) {e ty:TypeId}{m:Nat}(es:List AV) {cs cs2:List AV}(g:List AV) (o:¬l=id) (D:σ l=some (.cells ty cs2)) (h0:σ id=none) (hm:es.length=m)
 (hl:∀v∈es,v.cells.length=P.cellsOf e) (H:cs=az es) (q:g.length=cs2.length)
 (E:∀k,k<g.length→ ∀(G G':Gh) (x:Value),G.Le G'→(∀y,ba P G (.fT id 0 m m) y→ba P G' (.an e es .full false) y)→ba P G (cs2.getD k .any) x→ba P G' (g.getD k .any) x)
 (h:ae P n ds c Q s (σ.set l (.cells ty g))):ae P n ds c Q s (σ.set id (.cells e cs)):=by
 subst H;intro G0 G a w h1 i;obtain⟨G',hle,F,conv⟩:=i.inv.freeze h0 hm hl;obtain⟨b,vs,K,J,L,I⟩:=i.inv.cells l ty cs2 (by simp[AS.set,o,D]);have A:=F.tu D (hle.inj _ _ K) J q (fun k u=>E k u G G' _ hle conv (I k (by omega)).1);exact h G0 G' a w (h1.trans hle) ⟨A,i.size,i.ds,fun j=>(i.rep j).mono hle⟩
theorem B9 (A:List AV) (x:AV) (C:List AV):(A++x::C).getD A.length .any=x:=by simp[List.getD_eq_getElem?_getD]
theorem Lq (A:List AV) (x v:AV) (C:List AV):(A++x::C).set A.length v=A++v::C:=by
 induction A with
 |nil=>rfl
 |cons a A g=>simp[g]
theorem Bx {b:Go.By}{n:Nat} :∀ {m t a:Nat}{l:List Int}{j:Nat},jX b n m t a= .ok (l,j)→a≤b.length→(∀x∈l,0≤x∧x<65536)∧j≤b.length:=by
 intro m;induction m with
 |zero=>intro t a l j h ha;cases h;exact⟨by simp,ha⟩
 |succ m q=>
  intro t a l j h ha;rw[jX]at h;split at h
  ·cases o:gh b a 2 with
   |error e=>rw[o]at h;cases h
   |ok z=>
    obtain⟨v,A⟩:=z;rw[o]at h;simp only at h;obtain⟨E,u,D⟩:=fL o;cases i:jX b n m (t+1) A with
    |error e=>rw[i]at h;cases h
    |ok z=>
     obtain⟨w,y⟩:=z;rw[i]at h;cases h;obtain⟨i1,i2⟩:=q i (by omega);refine⟨fun x g=> ?_,i2⟩;rcases List.mem_cons.1 g with rfl|g
     ·have h1:=jk (cy b a 2);have F:=eQ b a 2 (by omega) (by omega) (by omega);rw[show(cy b a 2).length=2 by omega,show(256:Int)^2=65536 by decide]at h1;rw[u];exact⟨cu _,h1⟩
     ·exact i1 x g
  ·cases i:jX b n m (t+1) a with
   |error e=>rw[i]at h;cases h
   |ok z=>
    obtain⟨w,y⟩:=z;rw[i]at h;cases h;obtain⟨i1,i2⟩:=q i ha;refine⟨fun x g=> ?_,i2⟩;rcases List.mem_cons.1 g with rfl|g
    ·omega
    ·exact i1 x g
def tV (l:List (List Int)):AV:=lV (l.map fun r=>(r,decide (r= [])),decide (l= []))
theorem Mu (T:List (List (List Int))):az (T.map tV)=T.map tV:=by
 induction T with
 |nil=>rfl
 |cons l T g=>simp only[az,List.map_cons,List.flatMap_cons]at g⊢;rw[g];rfl
def Wb (b:Go.By) (nl:Bool) (g:Nat) (d:List Int) (bq id h i id6 w:Nat) (X:Except (Int×Int) (List (List (List Int))×Nat)) (S:AS) (m:Nat) (f:Fr) (σ':AS):Prop:=
 ∃(t a:Nat) (T:List (List (List Int))),m=6-t∧t≤6∧a≤b.length∧T.length=t∧gq T (jU b g (d.drop t) t a)=X∧
  σ'=(S.set id (bC b a nl)).set w (.cells 94 (T.map tV++List.replicate (6-t) .ai))∧
  f=jJ [(0,.ptr bq 0),(2,.ptr h 0),(6,.ptr id6 0),(33,.agg (d.map aV)),(34,.sc (.int .i64 t))]
def Wc (b:Go.By) (nl:Bool) (g:Nat) (d:List Int) (t c:Nat) (T:List (List (List Int))) (bq id h id6 w j:Nat) (X:Except (Int×Int) (List (List Int)×Nat)) (S:AS) (m:Nat) (f:Fr) (σ':AS):Prop:=
 ∃(i a:Nat) (L:List (List Int)),m=c-i∧i≤c∧a≤b.length∧L.length=i∧gq L (jV b g (bF (t:Int)) (c-i) a)=X∧
  σ'=((S.set id (bC b a nl)).set w (.cells 94 (T.map tV++ .an 44 (L.map r9) (.tok j) (decide (L= []))::List.replicate (5-t) .ai))).set j (.tok i)∧
  f=jJ [(0,.ptr bq 0),(2,.ptr h 0),(6,.ptr id6 0),(7,.sc (.int .i64 t)),(33,.agg (d.map aV)),(34,.sc (.int .i64 t)),(38,.sc (.int .i64 c)),(39,.sc (.int .i64 i))]
def We (b:Go.By) (nl:Bool) (i:Nat) (bq id h g:Nat) (X:Except (Int×Int) (List Int×Nat)) (B:AS) (m:Nat) (f:Fr) (σ':AS):Prop:=
 ∃(t a:Nat) (d:List Int),m=6-t∧t≤6∧a≤b.length∧d.length=t∧gq d (jX b i (6-t) t a)=X∧
  σ'=(B.set id (bC b a nl)).set g (.cells 230 ((d++List.replicate (6-t) 0).map aV))∧
  f=jJ [(0,.ptr bq 0),(2,.ptr h 0),(3,.sc (.int .i64 i)),(4,.ptr g 0),(16,.sc (.int .i64 t))]
def W7 (b:Go.By) (nl:Bool) (bq id:Nat) (σ:AS) (r:AV) (σ':AS):Prop:= ∃v a mk,kY b= .ok (v,a)∧r=QD v∧σ'=(σ.set bq (dQ id b.length mk)).set id (bC b (a:Nat) nl)
def M9 (b:Go.By) (nl:Bool) (bq id:Nat) (σ:AS) (p:AV) (σ':AS):Prop:= ∃e,kY b= .error e∧p=D4 e.1 e.2∧ ∃a mk:Int,σ'=(σ.set bq (dQ id b.length mk)).set id (bC b a nl)
theorem M9.of {b:Go.By}{nl:Bool}{bq id:Nat}{σ S:AS}{e:Int×Int}(g:kY b= .error e) (a mk:Int) (hle:AS.le ((σ.set bq (dQ id b.length mk)).set id (bC b a nl)) S):∃σ',AS.le σ' S∧M9 b nl bq id σ (D4 e.1 e.2) σ':=
 ⟨_,hle,e,g,rfl,a,mk,rfl⟩
theorem C7 (bq id:Nat) (b:Go.By) (nl:Bool) (i4:nl=true→b= []) (σ:AS) (hr:σ bq=some (dQ id b.length 0)) (h:σ id=some (bC b 0 nl)) (hl:b.length≤100000):
 aa prog 105 [.ptr bq 0] σ (W7 b nl bq id σ) (M9 b nl bq id σ):=by
 have n:¬bq=id:=by rintro rfl;rw[hr]at h;simp[dQ,bC]at h
 have bs:=aA n;refine aa.ob func105 ?_;refine gO cf tI tI ?_;intro F b2;have o:¬id=F:=nq h b2;have q:=aA o;have g:¬bq=F:=nq hr b2;have E:=aA g;cases c9:fm b 0 3 with
 |error e=>
  have hX:kY b= .error e:=by unfold kY;rw[c9]
  have hb:=fun σ hr h=>vP bq id 0 b 0 nl σ hr h (by omega) (by omega) 3 e c9;refine gO cf tI tI ?_;refine ag.Da (hb _ (by simp[g,hr]) (by simp[o,h])) ?_;intro x;simp-implicitDefEqProofs;refine M9.of hX x 0 ?_;have F_:=(j2 (j7 @hr @h b2 n bs q o) (j4 @h E g @hr));intro j_ y_;refine gK F_ j_ id fun a0=>gK F_ j_ bq fun f0=>gK F_ j_ F fun f4=> ?_;intro ap;simp[AS.set,a0,f0,f4]at ap⊢;try exact ap
 |ok z=>
  obtain⟨mk,a1⟩:=z;obtain⟨hI,hZ⟩:=nK c9;obtain⟨q1,q2,q3⟩:=fL hI;have g5:0≤mk:=by rw[q2];exact cu _
  have hb:=fun σ hr h=>yp bq id 0 b 0 nl σ hr h (by omega) 3 mk a1 c9;simp only[dQ]at hr;refine gO cf (j6 n o @h g @hr @dQ.eq_1) @hb ?_;obtain⟨B,hg,hi,e8,hle⟩:∃B:AS,(((σ.set F (.cells 63 [.sc (.int .i64 0),.ai])).set id (bC b a1 nl)).set bq (.cells 178 [.ptr id 0,.sc (.int .i64 b.length),.sc (.int .i64 mk)]))=B.set id (bC b a1 nl)∧
   B F=some (.cells 63 [.sc (.int .i64 0),.ai])∧B bq=some (dQ id b.length mk)∧
   ∀(x:Int) (S:AS),S id=some (bC b x nl)→(∀j,j≠F→j≠id→ ∀y,B j=some y→S j=some y)→AS.le ((σ.set bq (dQ id b.length mk)).set id (bC b x nl)) S:=by
   refine⟨((σ.set F (.cells 63 [.sc (.int .i64 0),.ai])).set bq (dQ id b.length mk)),?_,by simp[E],by simp,?_⟩
   ·funext j;by_cases e1:j=id
    ·subst e1;simp[AS.set,bs]
    ·simp[AS.set,e1,dQ]
   ·intro x S hS hj j y D;by_cases e1:j=id
    ·subst e1;have:bC b x nl=y:=by simpa[AS.set]using D
     rw[hS,this]
    ·by_cases e2:j=bq
     ·subst e2;refine hj j g e1 y ?_;simpa[AS.set,e1]using D
     ·have g0:σ j=some y:=by simpa[AS.set,e1,e2]using D
      have e3:j≠F:=nq b2 g0;exact hj j e3 e1 y (by simp[AS.set,e2,e3,g0])
  rw[hg];clear hg hb;obtain⟨u,rfl⟩:=Int.eq_ofNat_of_zero_le g5;cases ee:fm b a1 63 with
  |error e=>
   have hX:kY b= .error e:=by unfold kY;rw[c9];simp only;rw[ee]
   have hb:=vP bq id u b a1 nl _ (show(B.set id (bC b a1 nl)) bq= _ by simp[n];exact e8) (by simp) (by omega) (by omega) 63 e ee;refine gO cf tI tI ?_;refine ag.Da hb ?_;intro x;simp-implicitDefEqProofs;refine M9.of hX x u (hle x _ (by simp) fun j a2 a3 y D=>by simp[AS.set,a3,D])
  |ok z=>
   obtain⟨th,a2⟩:=z;obtain⟨hH,hW⟩:=nK ee;obtain⟨p1,p2,p3⟩:=fL hH;have g1:0≤th:=by rw[p2];exact cu _
   obtain⟨ca,rfl⟩:=Int.eq_ofNat_of_zero_le g1;have hb:=yp bq id u b a1 nl _ (show(B.set id (bC b a1 nl)) bq= _ by simp[n];exact e8) (by simp) (by omega) 63 ca a2 ee;simp only[AS.set_set]at hb;refine gO cf tI @hb ?_;intro ab U c7;have bv:=aA U;have al:¬bq=ab:=nq e8 c7;have fe:=aA al;have am:¬F=ab:=nq hi c7;have fi:=aA am;refine gO cf tI tI ?_;refine ae.dx (We b nl ca bq id F ab (jX b ca 6 0 a2) B) (k0:=6) ⟨0,a2,[],rfl,by omega,by omega,rfl,wD _,rfl,rfl⟩ (aS.mk (by simp)) (by simp[aG]) ?_;rintro m f σ' ⟨t,a,d,hm,ht,ha,hd,hX,hs,rfl⟩;have gI:σ' id=some (bC b a nl):=by rw[hs];simp[bv]
   have gR:σ' bq=some (dQ id b.length u):=by rw[hs];simp[al,n,e8]
   have g4:σ' ab=some (.cells 230 ((d++List.replicate (6-t) 0).map aV)):=by rw[hs];simp
   have c5:∀(x:Int) (S:AS),S id=some (bC b x nl)→(∀j,j≠F→j≠id→j≠ab→ ∀y,σ' j=some y→S j=some y)→AS.le ((σ.set bq (dQ id b.length u)).set id (bC b x nl)) S:=by intro x S hS hj;refine hle x S hS fun j e1 e2 y D=> ?_;have e4:j≠ab:=nq c7 D;exact hj j e1 e2 e4 y (by rw[hs];simp[AS.set,e2,e4,D])
   have K:kY b=match jX b ca 6 0 a2 with
    |.error e=> .error e
    |.ok (cs,a3)=>match gh b a3 2 with
     |.error e=> .error e
     |.ok (en,a4)=>match jU b u cs 0 a4 with
      |.error e=> .error e
      |.ok (T,a5)=> .ok ((en,T),a5):=by unfold kY;rw[c9];simp only;rw[ee];simp only[Int.toNat_natCast]
   by_cases d3:t<6
   ·have hT:((t:Int)<6)=True:=by simp;omega
    rw[show 6-t=(6-(t+1))+1 by omega,jX]at hX;have ci:=Pv ca t d3 (by omega);have g3:List.replicate (6-t) (0:Int)=0::List.replicate (6-(t+1)) 0:=by rw[show 6-t=(6-(t+1))+1 by omega];rfl
    by_cases ft:ca/2^t%2=1
    ·rw[ft]at ci;rw[if_pos ft]at hX;cases hN:gh b a 2 with
     |error e=>
      rw[hN]at hX;simp only[gq]at hX;have d8:kY b= .error e:=by rw[K,←hX]
      have hb:=rY bq id u b a 2 nl σ' gR gI ha (by omega) rfl e hN;refine gO cf (j2 @hT @ci) tI ?_;refine ag.Da hb ?_;intro x;simp-implicitDefEqProofs;exact M9.of d8 x u (c5 x _ (by simp) fun j e1 e2 e3 y D=>by simp[AS.set,e2,D])
     |ok z=>
      obtain⟨v,a3⟩:=z;rw[hN]at hX;simp only at hX;rw[se]at hX;obtain⟨z1,z2,z3⟩:=fL hN;have hb:=lj bq id u b a 2 nl σ' gR gI (by omega) rfl (by omega) v a3 hN;have hV:t<d.length+(6-t):=by omega
      refine gO cf (j4 @hT @ci @g4 U) @hb ?_;refine⟨m-1,_,_,by omega,aS.mk (by simp[g8 (show t<4000000000000000000 by omega)]),?_,t+1,a3,d++ [v],by omega,by omega,by omega,by simp[hd],hX,rfl,rfl⟩;have hc:List.take t (List.map aV d++List.replicate (6-t) (aV 0))++AV.sc (Value.int IntKind.i64 v)::List.drop (t+1) (List.map aV d++List.replicate (6-t) (aV 0))=List.map aV (d++ [v]++List.replicate (6-(t+1)) 0):=by have:=FJ (List.map aV d) (aV 0) (aV v) (List.replicate (6-(t+1)) (aV 0));rw[List.length_map,hd]at this;rw[show 6-t=(6-(t+1))+1 by omega,List.replicate_succ];rw[aG v]at this;rw[this];simp[aG]
      rw[hs,hc];have F_:=(j8 U bv q o @h E g @hr);intro j_ y_;refine gK F_ j_ id fun a0=>gK F_ j_ ab fun f3=> ?_;intro ap;simp[AS.set,a0,f3]at ap⊢;try exact ap
    ·have hB:ca/2^t%2=0:=by omega
     rw[hB]at ci;rw[if_neg ft,se]at hX;refine gO cf (j2 @hT @ci) tI ?_;refine⟨m-1,_,_,by omega,aS.mk (by simp[g8 (show t<4000000000000000000 by omega)]),lR _,t+1,a,d++ [0],by omega,by omega,ha,by simp[hd],hX,?_,rfl⟩;rw[hs,g3];simp
   ·have hT:((t:Int)<6)=False:=by simp;omega
    obtain rfl:t=6:=by omega
    have c8:jX b ca 6 0 a2= .ok (d,a):=by rw[←hX];simp[jX,gq]
    rw[c8]at K;simp only at K;simp only[Nat.sub_self,List.replicate_zero,List.append_nil]at g4 hs;obtain⟨hw,_⟩:=Bx c8 (by omega);clear hX hm c8;simp only[dQ]at gR;refine gO (S:= [10,16]) cf tI tI ?_;refine ae.Jk (Wd b nl id bq F ab a σ') ?_ ?_
    ·cases hN:gh b a 2 with
     |error e=>
      have d8:kY b= .error e:=by rw[K,hN]
      have hb:=fun σ hr h=>rY bq id u b a 2 nl σ hr h ha (by omega) rfl e hN;have lf:∀(x:Int) (S:AS),S id=some (bC b x nl)→(∀j,j≠id→ ∀y,σ' j=some y→S j=some y)→ ∃σ1,AS.le σ1 S∧M9 b nl bq id σ (D4 e.1 e.2) σ1:=fun x S h1 h2=>M9.of d8 x u (c5 x S h1 fun j e1 e2 e3 y D=>h2 j e2 y D);clear K c5 hle hs
      (((with_reducible apply ae.aR (id:=10) (t:=jS));(exact mixed);kernel_rfl;kernel_rfl;(repeat (with_reducible first|apply ak.then|apply ak.block|apply ak.body|apply ak.no)));simp-implicitDefEqProofs)
      all_goals
       repeat' (first
        |(with_reducible apply j2)
        |((fail_if_success (have:=A));intro w1;(repeat (refine fun(_ :¬ _)=> ?_));intro A;have bb:¬w1=id:=(by rintro rfl;rw[gI]at A;cases A);have Z:¬id=w1:=(fun e=>bb e.symm);have cd:¬bq=w1:=(by rintro rfl;rw[gR]at A;cases A);try simp-implicitDefEqProofs [bb,Z,cd,gI,gR])
        |(intro w2;(repeat (refine fun(_ :¬ _)=> ?_));intro H;have c4:¬w2=id:=(by rintro rfl;rw[gI]at H;cases H);have c3:¬id=w2:=(fun e=>c4 e.symm);have es:¬bq=w2:=(by rintro rfl;rw[gR]at H;cases H);have c2:¬w2=w1:=(by assumption);have c1:¬w1=w2:=(fun e=>c2 e.symm);try simp-implicitDefEqProofs [bb,Z,cd,c4,c3,es,c2,c1,gI,gR])
        |(refine ag.Da (hb _ (by first|(simp[dQ,gR,cd,es];done)|(simp[dQ,gR,cd];done)|(simp[dQ,gR];done)) (by first|(simp[gI,Z,c3];done)|(simp[gI,Z];done)|(simp[gI];done))) ?_;intro x;simp-implicitDefEqProofs))
      all_goals
       refine lf x _ (by simp) (fun j e y D=> ?_);first
        |(have m1:j≠w1:=(by rintro rfl;rw[A]at D;cases D)
          first
          |(have m2:j≠w2:=(by rintro rfl;rw[H]at D;cases D)
            simp[AS.set,e,m1,m2,D];done)
          |(simp[AS.set,e,m1,D];done))
        |(simp[AS.set,e,D];done)
     |ok z=>
      obtain⟨en,a4⟩:=z;have hb:=fun σ hr h=>lj bq id u b a 2 nl σ hr h (by omega) rfl (by omega) en a4 hN;clear K c5 hle hs
      (((with_reducible apply ae.aR (id:=10) (t:=jS));(exact mixed);kernel_rfl;kernel_rfl;(repeat (with_reducible first|apply ak.then|apply ak.block|apply ak.body|apply ak.no)));simp-implicitDefEqProofs)
      all_goals
       repeat' (first
        |(with_reducible apply j2)
        |((fail_if_success (have:=A));intro w1;(repeat (refine fun(_ :¬ _)=> ?_));intro A;have bb:¬w1=id:=(by rintro rfl;rw[gI]at A;cases A);have Z:¬id=w1:=(fun e=>bb e.symm);have cd:¬bq=w1:=(by rintro rfl;rw[gR]at A;cases A);try simp-implicitDefEqProofs [bb,Z,cd,gI,gR])
        |(intro w2;(repeat (refine fun(_ :¬ _)=> ?_));intro H;have c4:¬w2=id:=(by rintro rfl;rw[gI]at H;cases H);have c3:¬id=w2:=(fun e=>c4 e.symm);have es:¬bq=w2:=(by rintro rfl;rw[gR]at H;cases H);have c2:¬w2=w1:=(by assumption);have c1:¬w1=w2:=(fun e=>c2 e.symm);try simp-implicitDefEqProofs [Z,c2,c1])
        |(refine ag.aC (hb _ (by first|(simp[dQ,gR,cd,es];done)|(simp[dQ,gR,cd];done)|(simp[dQ,gR];done)) (by first|(simp[gI,Z,c3];done)|(simp[gI,Z];done)|(simp[gI];done))) ?_;first|simp-implicitDefEqProofs [bb,Z,c4,c3,c2,c1]|simp-implicitDefEqProofs [bb,Z]|simp-implicitDefEqProofs))
      all_goals
       first
        |(refine⟨_,_,?_,lR _,w1,w2,a4,en,hN,A,H,c1,?_,?_,?_,fun j e y D=> ?_,rfl⟩
          ·apply aS.mk;simp;done
          ·simp[Z,c3];done
          ·simp[c1,bb];done
          ·simp[c4];done
          ·have m1:j≠w1:=(by rintro rfl;rw[A]at D;cases D);have m2:j≠w2:=(by rintro rfl;rw[H]at D;cases D);simp[AS.set,e,m1,m2,D];done)
        |(refine⟨_,_,?_,lR _,w2,w1,a4,en,hN,H,A,c2,?_,?_,?_,fun j e y D=> ?_,rfl⟩
          ·apply aS.mk;simp;done
          ·simp[Z,c3];done
          ·simp[c4];done
          ·simp[c1,bb];done
          ·have m1:j≠w1:=(by rintro rfl;rw[A]at D;cases D);have m2:j≠w2:=(by rintro rfl;rw[H]at D;cases D);simp[AS.set,e,m1,m2,D];done)
    ·rintro s1 σ1 ⟨w,id6,a4,en,hN,d7,c6,d5,sI,sW,s6,ar,rfl⟩;have b0:¬w=id:=nq gI d7;have V:=aA b0;have Q:¬id6=id:=nq gI c6;have dp:=aA Q;have X:=aA d5;have cb:¬bq=w:=nq gR d7;have sR:=ar bq n _ gR;have s4:=ar ab U _ g4;rw[hN]at K;simp only at K;obtain⟨z1,z2,z3⟩:=fL hN;refine gO (S:= [10,16]) cf (j2 @s4 @hd) tI ?_;refine ae.dx (Wb b nl u d bq id F ab id6 w (jU b u d 0 a4) σ1) (k0:=6) ⟨0,a4,[],rfl,by omega,by omega,rfl,wD _,rfl,rfl⟩ (aS.mk ?_) ?_ ?_
     ·simp[List.take_of_length_le,hd]
     ·intro j y D;by_cases e1:j=w
      ·subst e1;rw[sW];simpa[AS.set,show jv 6 AV.ai=List.replicate 6 AV.ai from rfl]using D
      ·by_cases e2:j=id
       ·subst e2;rw[sI];simpa[AS.set,e1]using D
       ·simpa[AS.set,e1,e2]using D
     rintro m2 f σ2 ⟨t,a5,T,i6,i3,hD,ea,b4,b1,rfl⟩;have kI:σ2 id=some (bC b a5 nl):=by rw[b1];simp[V]
     have kR:σ2 bq=some (.cells 178 [.ptr id 0,.sc (.int .i64 b.length),.sc (.int .i64 u)]):=by rw[b1];simp[cb,n,sR]
     have kW:σ2 w=some (.cells 94 (T.map tV++List.replicate (6-t) .ai)):=by rw[b1];simp
     have k6:σ2 id6=some (.cells 63 [.sc (.int .i64 en),.fT w 0 6 6]):=by rw[b1];simp[X,Q,s6]
     have gs:∀(x:Int) (Y:AS),Y id=some (bC b x nl)→(∀j,j≠F→j≠id→j≠ab→j≠w→ ∀y,σ2 j=some y→Y j=some y)→AS.le ((σ.set bq (dQ id b.length u)).set id (bC b x nl)) Y:=by intro x Y hY hj;refine c5 x Y hY fun j e1 e2 e3 y D=> ?_;have e4:j≠w:=nq d7 D;exact hj j e1 e2 e3 e4 y (by rw[b1];simp[AS.set,e2,e4,ar j e2 y D])
     by_cases d3:t<6
     ·have d9:((t:Int)<6)=True:=by simp;omega
      have g2:t<d.length:=by omega
      have hz:=hw d[t] (List.getElem_mem g2);have g6:∀hh,(List.map aV d)[t]'hh= .sc (.int .i64 d[t]):=fun hh=>by simp[aG]
      rw[List.drop_eq_getElem_cons g2,jU]at b4;obtain⟨c,hc⟩:=Int.eq_ofNat_of_zero_le hz.1;rw[hc]at b4 g6;simp only[Int.toNat_natCast]at b4;have hu:List.replicate (6-t) AV.ai= .ai::List.replicate (5-t) .ai:=by rw[show 6-t=(5-t)+1 by omega];rfl
      have e0:(T.map tV).length=t:=by simpa using ea
      rw[hu]at kW;refine ae.pO w t 44 [] true kW (by simp[ea]) (.inr ⟨by have:=B9 (T.map tV) AV.ai (List.replicate (5-t) AV.ai);rwa [e0]at this,rfl,rfl⟩) ?_;intro tk av;have fb:=Lq (T.map tV) AV.ai (AV.an 44 [] (.tok tk) true) (List.replicate (5-t) AV.ai);rw[e0]at fb;rw[fb];have I:¬id=tk:=nq kI av;have O:=aA I;have P:¬bq=tk:=nq kR av;have bc:=aA P;have M:¬w=tk:=nq kW av;have af:=aA M;have J:¬id6=tk:=nq k6 av;have be:=aA J;refine gO (S:= [10,16]) cf (j4 @d9 d3 @g6 @hd) tI ?_;refine ae.dx (Wc b nl u d t c T bq id F id6 w tk (jV b u (bF (t:Int)) c a5) σ2) (k0:=c) ⟨0,a5,[],by omega,by omega,hD,rfl,wD _,rfl,rfl⟩ (aS.mk ?_) ?_ ?_
      ·simp
      ·rw[List.map_nil,show decide (([]:List (List Int))= [])=true from rfl];have F_:=(j2 (j7 @kI q o @h E g @hr) (j2 (j7 O I @kI bc P @kR af) (j5 M @kW be J @k6)));intro j_ y_;refine gK F_ j_ id fun a0=>gK F_ j_ w fun fz=>gK F_ j_ tk fun ej=> ?_;intro ap;simp[AS.set,a0,fz,ej]at ap⊢;try exact ap
      rintro m3 f σ3 ⟨i,a6,L,i5,i9,fv,hL,b3,ce,rfl⟩;have jI:σ3 id=some (bC b a6 nl):=by rw[ce];simp[I,V]
      have jR:σ3 bq=some (.cells 178 [.ptr id 0,.sc (.int .i64 b.length),.sc (.int .i64 u)]):=by rw[ce];simp[P,cb,n,kR]
      have j6:σ3 id6=some (.cells 63 [.sc (.int .i64 en),.fT w 0 6 6]):=by rw[ce];simp[J,X,Q,k6]
      have jT:σ3 tk=some (.tok L.length):=by rw[ce,hL];simp
      have jW:σ3 w=some (.cells 94 (T.map tV++ .an 44 (L.map r9) (.tok tk) (decide (L= []))::List.replicate (5-t) .ai)):=by rw[ce];simp[M]
      have ge:∀(x:Int) (Y:AS),Y id=some (bC b x nl)→(∀j,j≠F→j≠id→j≠ab→j≠w→j≠tk→ ∀y,σ3 j=some y→Y j=some y)→AS.le ((σ.set bq (dQ id b.length u)).set id (bC b x nl)) Y:=by intro x Y hY hj;refine gs x Y hY fun j e1 e2 e3 e4 y D=> ?_;have e5:j≠tk:=nq av D;exact hj j e1 e2 e3 e4 e5 y (by rw[ce];simp[AS.set,e2,e4,e5,D])
      by_cases i8:i<c
      ·have e6:((i:Int)<c)=True:=by simp;omega
       obtain⟨CL,e7⟩:∃CL,T.map tV++ .an 44 (L.map r9) (.tok tk) (decide (L= []))::List.replicate (5-t) .ai=CL:=⟨_,rfl⟩;have ei:CL.length=6:=by rw[←e7];simp[ea];omega
       have eg:∀hh,CL[t]'hh= .an 44 (L.map r9) (.tok tk) (decide (L= [])):=fun hh=>by have:=B9 (T.map tV) (.an 44 (L.map r9) (.tok tk) (decide (L= []))) (List.replicate (5-t) .ai);rw[e0,e7,List.getD_eq_getElem?_getD,List.getElem?_eq_getElem hh]at this;exact this
       have he:∀v,List.take t CL++v::List.drop (t+1) CL=T.map tV++v::List.replicate (5-t) .ai:=fun v=>by rw[←e7];have:=FJ (T.map tV) (.an 44 (L.map r9) (.tok tk) (decide (L= []))) v (List.replicate (5-t) .ai);rwa [e0]at this
       rw[e7]at jW;rw[show c-i=(c-(i+1))+1 by omega,jV]at b3;have ch:=vp bq id u (by omega) b a6 t nl σ3 jR jI fv (by omega);cases eb:gG b u (bF (t:Int)) a6 with
       |error e=>
        rw[eb]at b3 ch;simp only[gq]at b3;have d8:kY b= .error e:=by rw[K,←b4,←b3];rfl
        have hb:aa prog 160 [.ptr bq 0,.sc (.int .i64 t)] σ3 No (KK b nl id e σ3):=ch.mono (fun _ _ h=>by obtain⟨v,a,h,_⟩:=h;cases h) (fun _ _ h=>by obtain⟨e',h,h2⟩:=h;cases h;exact h2);refine gO (S:= [10,16]) cf @e6 tI ?_
        (((with_reducible apply ae.aR (id:=16) (t:=jQ));(exact mixed);kernel_rfl;kernel_rfl;(repeat (with_reducible first|apply ak.then|apply ak.block|apply ak.body|apply ak.no)));simp-implicitDefEqProofs [j6,jW,d9,d3,ei,eg])
        all_goals
         repeat' (first
          |(with_reducible apply j2)
          |(refine ag.Da hb ?_;intro x;simp-implicitDefEqProofs))
        all_goals
         exact M9.of d8 x u (ge x _ (by simp) fun j e1 e2 e3 e4 e5 y D=>by simp[AS.set,e2,D])
       |ok z=>
        obtain⟨l,a7⟩:=z;rw[eb]at b3 ch;simp only at b3;rw[se]at b3;have hC:=Bv eb fv;have hb:aa prog 160 [.ptr bq 0,.sc (.int .i64 t)] σ3 (ao (r9 l) (σ3.set id (bC b a7 nl))) No:=ch.mono (fun _ _ h=>by obtain⟨v,a,h,h2,h3⟩:=h;cases h;exact⟨h2,h3.symm⟩) (fun _ _ h=>by obtain⟨e',h,h2⟩:=h;cases h);simp only[r9]at hb;have c9:L.length≤70000:=by omega
        have hK:(L++ [l]).map r9=L.map r9++ [.an 3 (l.map aV) .aE (decide (l= []))]:=by simp[r9]
        have hJ:decide (L++ [l]= [])=false:=by simp
        clear K c5 gs ge hle hs ch;refine gO (S:= [10,16]) cf @e6 tI ?_
        (((with_reducible apply ae.aR (id:=16) (t:=jQ));(exact mixed);kernel_rfl;kernel_rfl;(repeat (with_reducible first|apply ak.then|apply ak.block|apply ak.body|apply ak.no)));simp-implicitDefEqProofs [j6,jW,d9,d3,ei,eg])
        all_goals
         repeat' (first
          |(with_reducible refine j2 (by omega) ?_)
          |(with_reducible apply j2)
          |(refine ag.aC hb ?_;simp-implicitDefEqProofs [j6,jW,jT,d9,d3,ei,eg,Q,b0,O,M,J]))
        all_goals
         (with_reducible apply ae.region)
         simp-implicitDefEqProofs;refine⟨m3-1,_,_,by omega,aS.mk ?_,?_,i+1,a7,L++ [l],by omega,by omega,hC,by simp[hL],b3,rfl,rfl⟩
         ·simp[g8 (show i<4000000000000000000 by omega)]
         ·rw[he,hK,hJ,ce,hL];exact Mg V I M
      ·have e6:((i:Int)<c)=False:=by simp;omega
       obtain rfl:i=c:=by omega
       have c8:jV b u (bF (t:Int)) i a5= .ok (L,a6):=by rw[←b3];simp[jV,gq]
       rw[c8]at b4;simp only at b4;rw[se]at b4;have g7:=fv;refine ae.KQ w (T.map tV++tV L::List.replicate (5-t) .ai) jW (by simp) (fun k _ =>Sq ?_ _ _ k) ?_
       ·simp only[tV,lV,List.map_map];exact(qm _ _ _ _).2 trivial
       refine gO (S:= [10,16]) cf @e6 tI ?_;refine⟨m2-1,_,_,by omega,aS.mk (by simp[g8 (show t<4000000000000000000 by omega)]),?_,t+1,a6,T++ [L],by omega,by omega,g7,by simp[ea],b4,rfl,rfl⟩;have k1:σ1 tk=none:=by rw[b1]at av;simpa[AS.set,af,O]using av
       rw[ce,b1,show(T++ [L]).map tV++List.replicate (6-(t+1)) AV.ai=T.map tV++tV L::List.replicate (5-t) .ai by rw[show 6-(t+1)=5-t by omega];simp];have F_:=(j2 (j7 @k1 V b0 I O M af) (j2 (j7 q o @h E g @hr O) (j2 (j7 I @kI bc P @kR af M) (j4 @kW be J @k6))));intro j_ y_;refine gK F_ j_ id fun a0=>gK F_ j_ w fun fz=>gK F_ j_ tk fun ej=> ?_;intro ap;simp[AS.set,a0,fz,ej]at ap⊢;try exact ap
     ·have d9:((t:Int)<6)=False:=by simp;omega
      obtain rfl:t=6:=by omega
      have c8:jU b u d 0 a4= .ok (T,a5):=by rw[←b4,List.drop_eq_nil_of_le (by omega)];simp[jU,gq]
      rw[c8]at K;simp only at K;simp only[Nat.sub_self,List.replicate_zero,List.append_nil]at kW;obtain⟨R,hR⟩:∃R:AS,R=fun j=>if j=w then none else σ2 j:=⟨_,rfl⟩;have eb:R w=none:=by rw[hR];simp
      have ec:∀j,j≠w→R j=σ2 j:=fun j hj=>by rw[hR];simp[hj]
      have hG:σ2=R.set w (.cells 94 (T.map tV)):=by
       funext j;by_cases e:j=w
       ·subst e;simp[kW]
       ·simp[AS.set,e,ec j e]
      rw[hG];refine ae.D3 id6 w (e:=94) (m:=6) (ty:=63) (cs2:= [.sc (.int .i64 en),.fT w 0 6 6]) (T.map tV) [.sc (.int .i64 en),.an 94 (T.map tV) .full false] X (by rw[ec id6 X];exact k6) eb (by simpa using ea) (fun v hv=> ?_) (Mu T).symm rfl (fun k hk G G' x hle conv hx=> ?_) ?_
      ·obtain⟨l,_,rfl⟩:=List.mem_map.1 hv;simp[tV,lV]
      ·match k,hk with
       |0,_ =>exact hx.mono hle
       |1,_ =>exact conv _ hx
      have fw:σ' F=some (.cells 63 [.sc (.int .i64 0),.ai]):=by rw[hs];simp[am,q,hi]
      have c0:¬F=id6:=nq fw c6;have cc:¬F=w:=nq fw d7;have r2:R F=some (.cells 63 [.sc (.int .i64 0),.ai]):=by rw[ec F cc,b1];simp[cc,q,ar F q _ fw]
      refine gO (S:= [10,16]) cf (j2 @r2 c0) tI ?_;refine⟨QD (en,T),(σ.set bq (dQ id b.length u)).set id (bC b a5 nl),lH (Wk.refl _) ((qm _ _ _ _).2 trivial),?_,(en,T),a5,u,K,rfl,rfl⟩;refine c5 a5 _ ?_ (fun j e1 e2 e3 y D=> ?_)
      ·simp only[AS.set,o,dp,if_false];rw[ec id V];exact kI
      ·have m1:j≠w:=nq d7 D;have m2:j≠id6:=nq c6 D;simp only[AS.set,e1,m2,if_false];rw[ec j m1,b1];simp[AS.set,e2,m1,ar j e2 y D]
theorem gd (S:List Nat):aH prog [] S:=mixed
theorem CT (S:List Nat):aH prog [(2,(.step 0 (.step 1 (.step 3 (.alt 2 (.alt 4 (.alt 5 (.alt 6 (.alt 7 .done .none) .none) .none) (.alt 5 (.alt 4 (.alt 6 (.alt 7 .done .none) .none) (.alt 6 (.read 4 (.alt 7 .done .none)) .none)) .none)) (.alt 4 (.alt 2 (.alt 5 (.alt 6 (.alt 7 .done .none) .none) .none) (.alt 5 (.read 2 (.alt 6 (.alt 7 .done .none) .none)) .none)) (.alt 5 (.read 2 (.alt 4 (.alt 6 (.alt 7 .done .none) .none) (.alt 6 (.read 4 (.alt 7 .done .none)) .none))) .none)))))))] S:=mixed
def mI (b:Go.By):Option (Int×List (List (List Int)))×Int×Int:=
 match kY b with
 |.error e=>(none,e.1,e.2)
 |.ok (v,a)=>if a<b.length then(none,a,2)else(some v,0,0)
def N2:Option (Int×List (List (List Int)))→AV
 |none=> .agg [.sc (.int .i64 0),.an 94 [] .aE true]
 |some v=>QD v
theorem Bo (n l j:Nat) (σ:AS) (K:AS→Prop) (i:∀id,σ id=none→K (σ.set id (.cells 174 [.sc (.int .i64 0),.sc (.int .i64 0)]))):bS prog 104 [.ptr n 0,.ptr l 0,.ptr j 0] σ none K:=by
 refine bS.of func104 rfl rfl (by simp[ntmps104]) (by simp[ntmps104]) ?_;refine br.sp rfl (il.mS (by simp[ntmps104]) underlying174 trivial (by kernel_rfl) rfl ?_);refine br.rest ?_;have h:aw prog 174= .agg [.sc (.int .i64 0),.sc (.int .i64 0)]:=by kernel_rfl
 simp-implicitDefEqProofs [h,ntmps104];intro id g;refine gO gd tI tI ?_;exact i id g
theorem ak.RQ {K:AS→Prop} :ak (Ch K):=fun _ _ _ _ h=>h.elim
theorem uD (j i h:Nat) (a e:Int) (H G F E:AV) (σ:AS) (K:AS→Prop) (D:σ j=some (.cells 63 [H,G])) (A:σ i=some (.cells 3 [F])) (y:σ h=some (.cells 31 [E])) (o:j≠i) (n:j≠h) (l:i≠h)
 (J:∀id,σ id=none→K ((((σ.set id (.cells 174 [.sc (.int .i64 a),.sc (.int .i64 e)])).set j (.cells 63 [.sc (.int .i64 0),.ai])).set i (.cells 3 [.sc (.int .i64 a)])).set h (.cells 31 [.sc (.int .i64 e)]))):
 bS prog 104 [.ptr j 0,.ptr i 0,.ptr h 0] σ (some (D4 a e)) K:=by
 refine bS.of func104 rfl rfl (by simp[ntmps104]) (by simp[ntmps104]) ?_;refine br.sp rfl (il.oR (by simp[ntmps104]) underlying174 trivial rfl ?_);refine br.rest ?_;simp-implicitDefEqProofs [ntmps104,D4,recV];intro id g;have w:¬j=id:=nq D g;have v:¬i=id:=nq A g;have I:¬h=id:=nq y g;have u:=aA w;have q:=aA v;refine gO (S:= [2]) CT tI tI ?_
 with_reducible apply ae.aR (id:=2) (t:=(b7.step 0 (b7.step 1 (b7.step 3 (b7.alt 2 (b7.alt 4 (b7.alt 5 (b7.alt 6 (b7.alt 7 b7.done b7.none) b7.none) b7.none) (b7.alt 5 (b7.alt 4 (b7.alt 6 (b7.alt 7 b7.done b7.none) b7.none) (b7.alt 6 (b7.read 4 (b7.alt 7 b7.done b7.none)) b7.none)) b7.none)) (b7.alt 4 (b7.alt 2 (b7.alt 5 (b7.alt 6 (b7.alt 7 b7.done b7.none) b7.none) b7.none) (b7.alt 5 (b7.read 2 (b7.alt 6 (b7.alt 7 b7.done b7.none) b7.none)) b7.none)) (b7.alt 5 (b7.read 2 (b7.alt 4 (b7.alt 6 (b7.alt 7 b7.done b7.none) b7.none) (b7.alt 6 (b7.read 4 (b7.alt 7 b7.done b7.none)) b7.none))) b7.none)))))))
 ·exact mixed
 ·kernel_rfl
 ·kernel_rfl
 ·exact ak.RQ
 simp-implicitDefEqProofs [D,A,y,o.symm,n.symm,l.symm,w,v,I,u,q];all_goals exact J id g
theorem IP {b:Go.By}{mk:Nat}{i:Go.By} :∀ {n a:Nat}{l:List (List Int)}{g:Nat},jV b mk i n a= .ok (l,g)→a≤b.length→g≤b.length:=by
 intro n;induction n with
 |zero=>intro a l g h ha;cases h;exact ha
 |succ n q=>
  intro a l g h ha;rw[jV]at h;cases o:gG b mk i a with
  |error e=>rw[o]at h;cases h
  |ok z=>
   obtain⟨v,w⟩:=z;rw[o]at h;simp only at h;have u:=Bv o ha;cases j:jV b mk i n w with
   |error e=>rw[j]at h;cases h
   |ok z=>obtain⟨y,A⟩:=z;rw[j]at h;cases h;exact q j u
theorem IN {b:Go.By}{mk:Nat} :∀ {cs:List Int}{t a:Nat}{l:List (List (List Int))}{g:Nat},jU b mk cs t a= .ok (l,g)→a≤b.length→g≤b.length:=by
 intro cs;induction cs with
 |nil=>intro t a l g h ha;cases h;exact ha
 |cons c cs n=>
  intro t a l g h ha;rw[jU]at h;cases j:jV b mk (bF (t:Int)) c.toNat a with
  |error e=>rw[j]at h;cases h
  |ok z=>
   obtain⟨v,q⟩:=z;rw[j]at h;simp only at h;have o:=IP j ha;cases i:jU b mk cs (t+1) q with
   |error e=>rw[i]at h;cases h
   |ok z=>obtain⟨u,w⟩:=z;rw[i]at h;cases h;exact n i o
theorem By {b:Go.By}{v:Int×List (List (List Int))}{a:Nat}(h:kY b= .ok (v,a)):a≤b.length:=by
 unfold kY at h;cases h1:fm b 0 3 with
 |error e=>rw[h1]at h;cases h
 |ok z=>
  obtain⟨mk,w⟩:=z;rw[h1]at h;simp only at h;cases l:fm b w 63 with
  |error e=>rw[l]at h;cases h
  |ok z=>
   obtain⟨n,u⟩:=z;rw[l]at h;simp only at h;cases j:jX b n.toNat 6 0 u with
   |error e=>rw[j]at h;cases h
   |ok z=>
    obtain⟨cs,q⟩:=z;rw[j]at h;simp only at h;cases i:gh b q 2 with
    |error e=>rw[i]at h;cases h
    |ok z=>
     obtain⟨en,o⟩:=z;rw[i]at h;simp only at h;obtain⟨D,A,y⟩:=fL i;cases g:jU b mk.toNat cs 0 o with
     |error e=>rw[g]at h;cases h
     |ok z=>obtain⟨T,E⟩:=z;rw[g]at h;cases h;exact IN g (by omega)
theorem mH (b:Go.By):(∃e,kY b= .error e∧mI b=(none,e.1,e.2))∨(∃v a,kY b= .ok (v,a)∧((a<b.length∧mI b=(none,(a:Int),2))∨(¬a<b.length∧mI b=(some v,0,0)))):=by
 unfold mI;cases h:kY b with
 |error e=>exact .inl ⟨e,rfl,rfl⟩
 |ok x=>
  obtain⟨v,a⟩:=x;refine .inr ⟨v,a,rfl,?_⟩;simp only;by_cases ha:a<b.length
  ·exact .inl ⟨ha,by rw[if_pos ha]⟩
  ·exact .inr ⟨ha,by rw[if_neg ha]⟩
theorem HV (b:Go.By) (o:cL) (nl:Bool) (a1:nl=true→b= []) (hl:b.length≤100000) (σ:AS):
 aa prog 46 [.an 5 (b.map u8) o nl] σ (ao (.bQ [N2 (mI b).1,.sc (.int .i64 (mI b).2.1),.sc (.int .i64 (mI b).2.2)]) σ) No:=by
 refine aa.jj func46 rfl rfl (by simp[ntmps46]) (fun G1=> ?_);apply lg.seq;have a0:f46.ntmps=29:=rfl;simp-implicitDefEqProofs only[a0];refine gO gd tI tI ?_;intro E Z;refine gO gd tI tI ?_;intro id3 w Y;have n:=aA w;refine gO gd tI tI ?_;intro F G u X;have g:=aA G;have i:=aA u;apply lg.defer (by simp) (by decide+kernel);intro D;simp-implicitDefEqProofs only[a0];refine gO gd tI tI ?_;obtain⟨B,a9,af,ac,ab,hle⟩:∃B:AS,(((σ.set E (.cells 63 [.sc (.int .i64 0),.ai])).set id3 (.cells 3 [.sc (.int .i64 0)])).set F (.cells 31 [.sc (.int .i64 0)]))=B∧B E=some (.cells 63 [.sc (.int .i64 0),.ai])∧B id3=some (.cells 3 [.sc (.int .i64 0)])∧B F=some (.cells 31 [.sc (.int .i64 0)])∧
  ∀S:AS,(∀j,j≠E→j≠id3→j≠F→ ∀y,B j=some y→S j=some y)→AS.le σ S:=by
  refine⟨_,rfl,by simp[n,i],by simp[g],by simp,?_⟩;intro S h j x I;have M:j≠E:=nq Z I;have L:j≠id3:=nq Y I;have P:j≠F:=nq X I;exact h j M L P x (by simp[AS.set,M,L,P,I])
 simp only[a9];clear a9;refine ag.of (oH b o nl a1 (by omega) _) ?_ (fun _ _ h=>h.elim);rintro r σ1 ⟨id,Q,rfl,rfl⟩;have m4:¬E=id:=nq af Q;have m5:¬id3=id:=nq ac Q;have m6:¬F=id:=nq ab Q;have ar:=aA m4;have ci:=aA m5;have ch:=aA m6;simp-implicitDefEqProofs;refine gO gd tI tI ?_;intro id5 H J;have K:=aA H;have q4:¬E=id5:=nq af J;have q5:¬id3=id5:=nq ac J;have q6:¬F=id5:=nq ab J;have ap:=aA q4;have ce:=aA q5;have cd:=aA q6;obtain⟨C,a4,a8,a7,a6,b3,a5,U⟩:∃C:AS,((B.set id (bC b 0 nl)).set id5 (.cells 178 [.ptr id 0,.sc (.int .i64 b.length),.sc (.int .i64 0)]))=C∧C E=some (.cells 63 [.sc (.int .i64 0),.ai])∧C id3=some (.cells 3 [.sc (.int .i64 0)])∧C F=some (.cells 31 [.sc (.int .i64 0)])∧C id5=some (dQ id b.length 0)∧C id=some (bC b 0 nl)∧
  ∀S:AS,(∀j,j≠E→j≠id3→j≠F→j≠id→j≠id5→ ∀y,C j=some y→S j=some y)→AS.le σ S:=by
  refine⟨_,rfl,by simp[m4,q4,af],by simp[m5,q5,ac],by simp[m6,q6,ab],by simp[dQ],by simp[K],?_⟩;intro S h;refine hle S fun j M L P y I=> ?_;have V:j≠id:=nq Q I;have e7:j≠id5:=nq J I;exact h j M L P V e7 y (by simp[AS.set,V,e7,I])
 simp only[a4];clear a4 hle;have av:=C7 id5 id b nl a1 C b3 a5 hl;rcases mH b with⟨e,hE,T⟩|⟨v,a,hE,T⟩
 ·rw[T];refine gO gd tI tI ?_;refine ag.of av (fun r σ' hr=>by obtain⟨v,a,mk,h,_⟩:=hr;rw[hE]at h;cases h) ?_;rintro p σ' ⟨e',a3,rfl,x,mk,rfl⟩;rw[hE]at a3;cases a3;simp-implicitDefEqProofs;refine uD E id3 F e.1 e.2 (.sc (.int .i64 0)) .ai (.sc (.int .i64 0)) (.sc (.int .i64 0)) _ _ (by simp[m4,q4,a8]) (by simp[m5,q5,a7]) (by simp[m6,q6,a6]) n i g ?_;intro A q;have f1:¬A=id:=by rintro rfl;simp at q
  have f2:¬A=id5:=by rintro rfl;simp[AS.set,f1]at q
  have f3:C A=none:=by simpa[AS.set,f1,f2]using q
  simp-implicitDefEqProofs [n,i,g];refine⟨jB (lH (by simp) (by simp)) (by simp) (by simp),U _ fun j M L P V e7 y I=> ?_⟩;have e8:j≠A:=nq f3 I;simp[AS.set,M,L,P,V,e7,e8,I]
 ·have ck:∃mk:Int,True:=⟨0,trivial⟩;refine gO gd tI tI ?_;refine ag.of av ?_ (fun p σ' hp=>by obtain⟨e,h,_⟩:=hp;rw[hE]at h;cases h);rintro r σ' ⟨v',a',mk,h',rfl,rfl⟩;rw[hE]at h';cases h';have t5:((C.set id5 (dQ id b.length mk)).set id (bC b a nl)) id5=some (.cells 178 [.ptr id 0,.sc (.int .i64 b.length),.sc (.int .i64 mk)]):=by simp[H,dQ]
  have tI:((C.set id5 (dQ id b.length mk)).set id (bC b a nl)) id=some (bC b a nl):=by simp
  have t2:((C.set id5 (dQ id b.length mk)).set id (bC b a nl)) E=some (.cells 63 [.sc (.int .i64 0),.ai]):=by simp[m4,q4,a8]
  have t3:((C.set id5 (dQ id b.length mk)).set id (bC b a nl)) id3=some (.cells 3 [.sc (.int .i64 0)]):=by simp[m5,q5,a7]
  have t4:((C.set id5 (dQ id b.length mk)).set id (bC b a nl)) F=some (.cells 31 [.sc (.int .i64 0)]):=by simp[m6,q6,a6]
  have O:∀S:AS,(∀j,j≠E→j≠id3→j≠F→j≠id→j≠id5→ ∀y,((C.set id5 (dQ id b.length mk)).set id (bC b a nl)) j=some y→S j=some y)→AS.le σ S:=fun S T=>U S fun j V e2 e3 M L y I=>T j V e2 e3 M L y (by simp[AS.set,M,L,I]);generalize (C.set id5 (dQ id b.length mk)).set id (bC b a nl)=D0 at t5 tI t2 t3 t4 O⊢;simp only[QD];have cl:=By hE;have a2:=fun σ h=>jm id b a nl σ h (by omega) (by omega) (by omega);rcases T with⟨ha,T⟩|⟨ha,T⟩
  ·rw[T];have hp:((0:Int)<(b.length:Int)-a)=True:=by simp;omega
   have b2:=fun σ h=>px id b a nl σ h;simp-implicitDefEqProofs [t2];refine gO gd (j5 @ar @ap @t5 @tI @ha) (j2 @a2 @b2) ?_;refine uD E id3 F a 2 (.sc (.int .i64 v.1)) (.an 94 (v.2.map fun l=>lV (l.map fun r=>(r,decide (r= [])),decide (l= []))) .aE false) (.sc (.int .i64 0)) (.sc (.int .i64 0)) _ _ (by simp) (by simp[w,t3]) (by simp[u,t4]) n i g ?_;intro A q;have f1:¬A=E:=by rintro rfl;simp at q
   have f3:D0 A=none:=by simpa[AS.set,f1]using q
   simp-implicitDefEqProofs [n,i,g];refine⟨jB (lH (by simp) (by simp)) (by simp) (by simp),O _ fun j M L P V e7 y I=> ?_⟩;have e8:j≠A:=nq f3 I;simp[AS.set,M,L,P,e8,I]
  ·rw[T];simp-implicitDefEqProofs [t2];refine gO gd (j2 (j7 @ar @ap w u G @t3 @t4) (j3 @t5 @tI @ha)) @a2 ?_;refine Bo _ _ _ _ _ ?_;intro A q;have f1:¬A=E:=by rintro rfl;simp[AS.set,n,i]at q
   have f2:¬A=id3:=by rintro rfl;simp[AS.set,g]at q
   have f4:¬A=F:=by rintro rfl;simp[AS.set]at q
   have b6:=aA f1;have b5:=aA f2;have b4:=aA f4;have f3:D0 A=none:=by simpa[AS.set,f1,f2,f4]using q
   simp-implicitDefEqProofs [n,i,g,b6,b5,b4];refine⟨jB (Wk.refl _) (Wk.refl _) (Wk.refl _),O _ fun j M L P V e7 y I=> ?_⟩;have e8:j≠A:=nq f3 I;simp[AS.set,M,L,P,e8,I]
end Rw
namespace Im
open Go Go.AW Tryz
theorem oZ (S:List Nat):aH prog [] S:=mixed
theorem ag.gp {f:FuncId}{args:List AV}{σ g:AS}{v:AV}{K i:AV→AS→Prop}(h:aa prog f args σ No (ao v g)) (j:i v g):ag prog (.sc (.func (.func f) #[] #[])) args σ K i:=
 .of h (fun _ _ h=>h.elim) (fun r σ' h=>by obtain⟨rfl,rfl⟩:=h;exact j)
abbrev iY:=Int×Int×Int
def mF (e t r:Int):iY:=(e,5,t*65536+r)
def pX (f:iY):AV:= .rX 99 (.agg [.sc (.int .i64 f.1),.sc (.int .i64 f.2.1),.sc (.int .i64 f.2.2)])
theorem qN (e p a:Int) (σ:AS):aa prog 45 [.sc (.int .i64 e),.sc (.int .i64 p),.sc (.int .i64 a)] σ No (ao (pX (e,p,a)) σ):=by refine aa.ob func45 ?_;refine gO oZ tI tI ?_;exact⟨σ,lR _,rfl,rfl⟩
theorem lu (e t r:Int) (σ:AS):aa prog 161 [.sc (.bool true),.sc (.int .i64 e),.sc (.int .i64 t),.sc (.int .i64 r)] σ (ao (.bQ []) σ) No:=by refine aa.ob func161 ?_;exact gE oZ tI tI
theorem eG (e t r:Int) (ht:0≤t) (h:t≤1000) (j:0≤r) (i:r≤1000000) (σ:AS):aa prog 161 [.sc (.bool false),.sc (.int .i64 e),.sc (.int .i64 t),.sc (.int .i64 r)] σ No (ao (pX (mF e t r)) σ):=by show aa _ _ _ _ _ (ao (pX (e,5,t*65536+r)) σ);have hf:=fun a σ=>qN e 5 a σ;have w1:IntKind.i64.wrap (t*65536)=t*65536:=ay (by omega) (by omega);have g:IntKind.i64.wrap (t*65536+r)=t*65536+r:=ay (by omega) (by omega);refine aa.ob func161 ?_;refine gO oZ (j2 @w1 @g) @hf ?_;exact⟨σ,lR _,rfl,rfl⟩
def RL {α:Type}(x:Except iY α) (Q:α→AV→AS→Prop) (r:AV) (σ':AS):Prop:= ∃v,x= .ok v∧Q v r σ'
def TH (f:iY) (B:AS) (p:AV) (σ':AS):Prop:=p=pX f∧AS.le B σ'
def TL {α:Type}(x:Except iY α) (B:AS) (p:AV) (σ':AS):Prop:= ∃f,x= .error f∧TH f B p σ'
theorem RL.ok {α:Type}{f:FuncId}{args:List AV}{x:Except iY α}{Q:α→AV→AS→Prop}{B σ:AS}{v:α}(h:aa prog f args σ (RL x Q) (TL x B)) (g:x= .ok v):aa prog f args σ (Q v) No:=
 h.mono (fun r σ' i=>by obtain⟨n,h1,l⟩:=i;rw[g]at h1;cases h1;exact l) (fun p σ' j=>by obtain⟨e,h1,_⟩:=j;rw[g]at h1;cases h1)
theorem RL.bad {α:Type}{f:FuncId}{args:List AV}{x:Except iY α}{Q:α→AV→AS→Prop}{B σ:AS}{e:iY}(h:aa prog f args σ (RL x Q) (TL x B)) (g:x= .error e):aa prog f args σ No (TH e B):=
 h.mono (fun r σ' i=>by obtain⟨n,h1,_⟩:=i;rw[g]at h1;cases h1) (fun p σ' j=>by obtain⟨e,h1,l⟩:=j;rw[g]at h1;cases h1;exact l)
theorem ag.Db {f:FuncId}{args:List AV}{x:iY}{σ B:AS}{K g:AV→AS→Prop}(h:aa prog f args σ No (TH x B)) (i:∀σ',AS.le B σ'→g (pX x) σ'):ag prog (.sc (.func (.func f) #[] #[])) args σ K g:=
 .of h (fun _ _ h=>h.elim) (fun r σ' h=>by obtain⟨rfl,h⟩:=h;exact i σ' h)
theorem eD {x:iY}{B:AS}{g:AV→AS→Prop}(h:∀σ',AS.le B σ'→g (pX x) σ'):∀r σ',TH x B r σ'→g r σ':=by rintro _ σ' ⟨rfl,i⟩;exact h σ' i
def dj {α:Type}(b:Bool) (e t r:Int) (k:Except iY α):Except iY α:=if b=true then k else .error (mF e t r)
def cM {α β:Type}(x:Except iY α) (k:α→Except iY β):Except iY β:=match x with|.error e=> .error e|.ok a=>k a
structure LE where
 R:Go.By
 rn:Bool
 N:Go.By
 nn:Bool
 B:Go.By
 bn:Bool
 C:Go.By
 cn:Bool
 en:Int
 t0:List (List Int)
 t1:List (List Int)
 t2:List (List Int)
 t3:List (List Int)
 t4:List (List Int)
 t5:List (List Int)
structure LD where
 sp:List Ty
 lo:List (List Ty)
 ty:AV
 fs:List Fd
 ms:List Mt
structure LK where
 id:Nat
 tP:Nat
 tO:Nat
 tF:Nat
 tM:Nat
def uZ (r:List Int):AV:= .an 3 (r.map aV) .aE (decide (r= []))
def kT (l:List (List Int)):AV:= .an 44 (l.map uZ) .aE (decide (l= []))
def C2 (k:LK) (e:LE) (d:LD) (n:Int):List AV:= [.an 5 (e.R.map u8) .aE e.rn,.an 5 (e.N.map u8) .aE e.nn,.an 5 (e.B.map u8) .aE e.bn,.an 5 (e.C.map u8) .aE e.cn,
 .sc (.int .i64 e.en),.an 94 [kT e.t0,kT e.t1,kT e.t2,kT e.t3,kT e.t4,kT e.t5] .aE false,.an 49 (d.sp.map cr) (.tok k.tP) (decide (d.sp= [])),.an 47 (d.lo.map Sg.qy) (.tok k.tO) (decide (d.lo= [])),d.ty,
 .an 56 (d.fs.map ny) (.tok k.tF) (decide (d.fs= [])),.an 53 (d.ms.map jK) (.tok k.tM) (decide (d.ms= [])),.sc (.int .i64 n)]
theorem b8 (k:LK) (e:LE) (d:LD) (n:Int):C2 k e d n= [.an 5 (e.R.map u8) .aE e.rn,.an 5 (e.N.map u8) .aE e.nn,.an 5 (e.B.map u8) .aE e.bn,.an 5 (e.C.map u8) .aE e.cn,
 .sc (.int .i64 e.en),.an 94 [kT e.t0,kT e.t1,kT e.t2,kT e.t3,kT e.t4,kT e.t5] .aE false,.an 49 (d.sp.map cr) (.tok k.tP) (decide (d.sp= [])),.an 47 (d.lo.map Sg.qy) (.tok k.tO) (decide (d.lo= [])),d.ty,
 .an 56 (d.fs.map ny) (.tok k.tF) (decide (d.fs= [])),.an 53 (d.ms.map jK) (.tok k.tM) (decide (d.ms= [])),.sc (.int .i64 n)]:=rfl
def TV (n:Nat) (r:List Int):Prop:=r.length=n∧ ∀v∈r,0≤v∧v<4294967296
def oc (n:Nat) (l:List (List Int)):Prop:=l.length≤65535∧ ∀r∈l,TV n r
structure Vo (e:LE):Prop where
 N:e.N.length≤65536
 B:e.B.length≤65536
 C:e.C.length≤65536
 nn:e.nn=true→e.N= []
 bn:e.bn=true→e.B= []
 cn:e.cn=true→e.C= []
 en:0≤e.en∧e.en<4294967296
 t0:oc 5 e.t0
 t1:oc 3 e.t1
 t2:oc 6 e.t2
 t3:oc 2 e.t3
 t4:oc 1 e.t4
 t5:oc 1 e.t5
structure LI (k:LK) (e:LE) (d:LD) (B τ:AS):Prop where
 id:τ k.id=some (.cells 108 (C2 k e d 0))
 tP:τ k.tP=some (.tok d.sp.length)
 tO:τ k.tO=some (.tok d.lo.length)
 tF:τ k.tF=some (.tok d.fs.length)
 tM:τ k.tM=some (.tok d.ms.length)
 le:AS.le B τ
 nd: [k.id,k.tP,k.tO,k.tF,k.tM].Nodup
 fr:∀j∈ [k.id,k.tP,k.tO,k.tF,k.tM],B j=none
 e:Vo e
variable {k:LK} {e:LE} {d:LD} {B τ:AS}
theorem LI.ne (h:LI k e d B τ):k.id≠k.tP∧k.id≠k.tO∧k.id≠k.tF∧k.id≠k.tM∧k.tP≠k.tO∧k.tP≠k.tF∧k.tP≠k.tM∧k.tO≠k.tF∧k.tO≠k.tM∧k.tF≠k.tM:=by have:=h.nd;simp only[List.nodup_cons,List.mem_cons,not_or,List.not_mem_nil,not_false_eq_true,and_true]at this;obtain⟨⟨v,u,q,o⟩,⟨n,l,j⟩,⟨i,g⟩,d1,_⟩:=this;exact⟨v,u,q,o,n,l,j,i,g,d1⟩
theorem LI.NA (h:LI k e d B τ):B k.id=none∧B k.tP=none∧B k.tO=none∧B k.tF=none∧B k.tM=none:=⟨h.fr _ (by simp),h.fr _ (by simp),h.fr _ (by simp),h.fr _ (by simp),h.fr _ (by simp)⟩
theorem LI.own (h:LI k e d B τ) {i:Nat}{b:bN}(n:τ i=none):LI k e d (B.set i b) (τ.set i b):=by
 have o:∀j,τ j≠none→j≠i:=fun j g=>by rintro rfl;exact g n
 have l:∀ {j},j∈ [k.id,k.tP,k.tO,k.tF,k.tM]→j≠i:=by
  intro j g;simp only[List.mem_cons,List.not_mem_nil,or_false]at g;rcases g with rfl|rfl|rfl|rfl|rfl
  ·exact o _ (by rw[h.id];simp)
  ·exact o _ (by rw[h.tP];simp)
  ·exact o _ (by rw[h.tO];simp)
  ·exact o _ (by rw[h.tF];simp)
  ·exact o _ (by rw[h.tM];simp)
 refine⟨?_,?_,?_,?_,?_,kC h.le,h.nd,fun j g=> ?_,h.e⟩
 ·rw[AS.ad _ _ (l (by simp))];exact h.id
 ·rw[AS.ad _ _ (l (by simp))];exact h.tP
 ·rw[AS.ad _ _ (l (by simp))];exact h.tO
 ·rw[AS.ad _ _ (l (by simp))];exact h.tF
 ·rw[AS.ad _ _ (l (by simp))];exact h.tM
 ·rw[AS.ad _ _ (l g)];exact h.fr j g
theorem LI.drop {B':AS}(h:LI k e d B τ) (hle:AS.le B' B):LI k e d B' τ:=
 ⟨h.id,h.tP,h.tO,h.tF,h.tM,AS.le_trans hle h.le,h.nd,fun j i=>(by
  cases g:B' j with
  |none=>rfl
  |some y=>have:=hle j y g;rw[h.fr j i]at this;cases this),h.e⟩
theorem LI.mP (h:LI k e d B τ) {i:Nat}(j:τ i=none):B i=none:=by
 cases g:B i with
 |none=>rfl
 |some y=>have:=h.le i y g;rw[j]at this;cases this
theorem LI.wr (h:LI k e d B τ) {i:Nat}{x b:bN}(n:B i=some x):LI k e d (B.set i b) (τ.set i b):=by
 have g:∀ {j},j∈ [k.id,k.tP,k.tO,k.tF,k.tM]→j≠i:=by intro j l o;rw[o]at l;rw[h.fr i l]at n;cases n
 refine⟨?_,?_,?_,?_,?_,kC h.le,h.nd,fun j l=> ?_,h.e⟩
 ·rw[AS.ad _ _ (g (by simp))];exact h.id
 ·rw[AS.ad _ _ (g (by simp))];exact h.tP
 ·rw[AS.ad _ _ (g (by simp))];exact h.tO
 ·rw[AS.ad _ _ (g (by simp))];exact h.tF
 ·rw[AS.ad _ _ (g (by simp))];exact h.tM
 ·rw[AS.ad _ _ (g l)];exact h.fr j l
theorem LI.mk' (h:LI k e d B τ) {l:LD}{i:AS}(n:i k.id=some (.cells 108 (C2 k e l 0))) (q:i k.tP=some (.tok l.sp.length)) (u:i k.tO=some (.tok l.lo.length)) (w:i k.tF=some (.tok l.fs.length))
 (v:i k.tM=some (.tok l.ms.length)) (o:∀j,j≠k.id→j≠k.tP→j≠k.tO→j≠k.tF→j≠k.tM→i j=τ j):LI k e l B i:=by
 refine⟨n,q,u,w,v,fun j b g=> ?_,h.nd,h.fr,h.e⟩;obtain⟨f0,f1,f2,f3,f4⟩:=h.NA;rw[o j (by rintro rfl;rw[f0]at g;cases g) (by rintro rfl;rw[f1]at g;cases g) (by rintro rfl;rw[f2]at g;cases g) (by rintro rfl;rw[f3]at g;cases g) (by rintro rfl;rw[f4]at g;cases g)];exact h.le j b g
def pU (N:Go.By) (g:Int):Except iY (Go.By):=if (Pl.jM N g).2=0 then .ok (Pl.jM N g).1 else .error ((Pl.jM N g).2,2,g)
def j9 (B:Go.By) (g:Int):Except iY (Go.By):=if (Pl.jz B g).2=0 then .ok (Pl.jz B g).1 else .error ((Pl.jz B g).2,3,g)
theorem LI.name (h:LI k e d B τ) (g:Int) (h0:0≤g) (h1:g<4294967296):
 aa prog 166 [.ptr k.id 0,.sc (.int .i64 g)] τ (RL (pU e.N g) (fun v=>ao (.sc (.string ⟨v.toArray⟩)) τ)) (TL (pU e.N g) τ):=by
 have j:=fun σ=>Pl.L6 e.N e.nn .aE g (by have:=h.e.N;omega) (by omega) (by omega) σ;have i:=h.id;have hf:=fun x σ=>qN x 2 g σ;unfold pU;generalize Pl.jM e.N g=y at j⊢;obtain⟨o,n⟩:=y;rw[b8]at i;refine aa.ob func166 ?_;by_cases l:n=0
 ·refine gO oZ (j2 @l @i) @j ?_;exact⟨_,τ,Wk.refl _,lR _,o,by simp,rfl,rfl⟩
 ·refine gO oZ (j2 @l @i) (j2 @j @hf) ?_;exact⟨τ,lR _,_,by simp,rfl,lR _⟩
theorem LI.yi (h:LI k e d B τ) (g:Int):
 aa prog 163 [.ptr k.id 0,.sc (.int .i64 g)] τ (RL (j9 e.B g) (fun v=>ao (.an 5 (v.map u8) .aE false) τ)) (TL (j9 e.B g) τ):=by
 have j:=fun σ=>Pl.MN e.B e.bn .aE g h.e.bn (by have:=h.e.B;omega) σ;have i:=h.id;have hf:=fun x σ=>qN x 3 g σ;unfold j9;generalize Pl.jz e.B g=y at j⊢;obtain⟨o,n⟩:=y;rw[b8]at i;refine aa.ob func163 ?_;by_cases l:n=0
 ·refine gO oZ (j2 @l @i) @j ?_;exact⟨_,τ,Wk.refl _,lR _,o,by simp,rfl,rfl⟩
 ·refine gO oZ (j2 @l @i) (j2 @j @hf) ?_;exact⟨τ,lR _,_,by simp,rfl,lR _⟩
end Im
end Go.Proofs.YtknalmoackcpbaaGreat
