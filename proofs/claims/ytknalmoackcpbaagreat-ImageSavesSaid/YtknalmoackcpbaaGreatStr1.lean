/- Chapter 03: tags, entries, what is wrong with an entry. -/
import Derived.Test.YtknalmoackcpbaaGreatCode7
set_option maxRecDepth 100000
set_option maxHeartbeats 3200000
set_option linter.all false
open Go Go.AW Go.RowKit
namespace Go.Proofs.YtknalmoackcpbaaGreat
namespace St
open Tryz
def tg:Nat->zY
 |0=> [82,79,87,83]
 |1=> [78,65,77,69]
 |2=> [66,76,79,66]
 | _ => [67,79,68,69]
theorem Hj (id:Nat) (σ:AS):ad prog 145 [.ptr id 0] σ (aq (.ptr id 0) σ) No:=by refine ad.ob func145 ?_;exact gE aa tI tI
theorem EP (id:Nat) (σ:AS):ad prog 146 [.ptr id 0] σ (aq (.ptr id 1) σ) No:=by refine ad.ob func146 ?_;exact gE aa tI tI
theorem ER (id:Nat) (σ:AS):ad prog 147 [.ptr id 0] σ (aq (.ptr id 2) σ) No:=by refine ad.ob func147 ?_;exact gE aa tI tI
theorem Hr (id:Nat) (σ:AS):ad prog 148 [.ptr id 0] σ (aq (.ptr id 3) σ) No:=by refine ad.ob func148 ?_;exact gE aa tI tI
theorem Dq (id:Nat) (k:Nat) (q:k<4) (σ:AS):ad prog 80 [.ptr id 0,zI k] σ (aq (.ptr id k) σ) No:=by
 have o:=Hj id σ;have l:=EP id σ;have j:=ER id σ;have p3:=Hr id σ
 match k,q with
 |0,_ =>refine ad.ob func80 ?_;exact gE aa tI @o
 |1,_ =>refine ad.ob func80 ?_;exact gE aa tI @l
 |2,_ =>refine ad.ob func80 ?_;exact gE aa tI @j
 |3,_ =>refine ad.ob func80 ?_;exact gE aa tI @p3
theorem JK (k:Nat) (j:k<4) (σ:AS):ad prog 94 [zI k] σ (aq (.sc (.string ⟨(tg k).toArray⟩)) σ) No:=by
 match k,j with
 |0,_ =>refine ad.ob func94 ?_;refine gO aa tI tI ?_;simp[tg]
 |1,_ =>refine ad.ob func94 ?_;refine gO aa tI tI ?_;simp[tg]
 |2,_ =>refine ad.ob func94 ?_;refine gO aa tI tI ?_;simp[tg]
 |3,_ =>refine ad.ob func94 ?_;refine gO aa tI tI ?_;simp[tg]
def sO (x:zY×Bool) (o:cA):AV:= .ah 5 (x.1.map u8) o x.2
def BF (y w v u:zY×Bool) (q o l j:cA):AV:= .agg [sO y q,sO w o,sO v l,sO u j]
def fu {α:Type}(q o l j:α):Nat->α
 |0=>q
 |1=>o
 |2=>l
 | _ =>j
theorem zC (A y w v:zY×Bool) (u q o l:cA) (k:Nat) (D:k<4) (σ:AS):
 ad prog 93 [BF A y w v u q o l,zI k] σ (aq (sO (fu A y w v k) (fu u q o l k)) σ) No:=by
 match k,D with
 |0,_ =>refine ad.ob func93 ?_;simp only[BF,sO,fu];refine gO aa tI tI ?_;intro id j;refine gO aa tI tI ?_;all_goals (repeat (first|exact lR _ |refine aw (by simp[j]) ?_))
 |1,_ =>refine ad.ob func93 ?_;simp only[BF,sO,fu];refine gO aa tI tI ?_;intro id j;refine gO aa tI tI ?_;all_goals (repeat (first|exact lR _ |refine aw (by simp[j]) ?_))
 |2,_ =>refine ad.ob func93 ?_;simp only[BF,sO,fu];refine gO aa tI tI ?_;intro id j;refine gO aa tI tI ?_;all_goals (repeat (first|exact lR _ |refine aw (by simp[j]) ?_))
 |3,_ =>refine ad.ob func93 ?_;simp only[BF,sO,fu];refine gO aa tI tI ?_;intro id j;refine gO aa tI tI ?_;all_goals (repeat (first|exact lR _ |refine aw (by simp[j]) ?_))
def pad (n:Nat):Nat:=(4-n%4)%4
def iw (s:Nat->zY):Nat->zY
 |0=> []
 |k+1=>iw s k++List.replicate (pad (iw s k).length) 0++s k
def zN (s:Nat->zY) (k:Nat):Nat:=56+(iw s k).length+pad (iw s k).length
def nF (s:Nat->zY):Nat->zY
 |0=> [67,71,82,68,1,0,4,0]
 |k+1=>nF s k++aS (zN s k) 4++aS (s k).length 4++tg k
def jR (s:Nat->zY):zY:=nF s 4++iw s 4
theorem Gt (k:Nat):(tg k).length=4:=by unfold tg;split<;>rfl
theorem tT (s:Nat->zY) (k:Nat):(nF s k).length=8+12*k:=by
 induction k with
 |zero=>rfl
 |succ k j=>simp only[nF,List.length_append,j,an,Gt];omega
theorem yj (n:Nat):pad n<4:=by unfold pad;omega
theorem MT (n:Nat):(n+pad n)%4=0:=by unfold pad;omega
theorem MS (n:Nat):(56+n+3)/4*4=56+n+pad n:=by unfold pad;omega
theorem yW {s:Nat->zY}{k N:Nat}(l:∀j,j<k->(s j).length<=N):(iw s k).length<=k*(N+3):=by
 induction k with
 |zero=>simp[iw]
 |succ k o=>have h1:=o (λj q=>l j (by omega));have v:=l k (by omega);have u:=yj (iw s k).length;simp only[iw,List.length_append,List.length_replicate];have:(k+1)*(N+3)=k*(N+3)+(N+3):=Nat.succ_mul _ _;omega
theorem z7 {α β:Type}(f:α->β) (q o l j:α) (k:Nat):f (fu q o l j k)=fu (f q) (f o) (f l) (f j) k:=by unfold fu;split<;>rfl
theorem SB (y w v u:zY×Bool) (q o l j:cA) {k:Nat}(A:k<4): [sO y q,sO w o,sO v l,sO u j][k]? =some (sO (fu y w v u k) (fu q o l j k)):=by
 match k,A with
 |0,_ =>rfl
 |1,_ =>rfl
 |2,_ =>rfl
 |3,_ =>rfl
theorem Gw {k:Nat}(j:k<4):List.take 4 (List.drop (4*k) [AV.sc (.int .u8 82),AV.sc (.int .u8 79),AV.sc (.int .u8 87),AV.sc (.int .u8 83),AV.sc (.int .u8 78),AV.sc (.int .u8 65),AV.sc (.int .u8 77),AV.sc (.int .u8 69),AV.sc (.int .u8 66),AV.sc (.int .u8 76),AV.sc (.int .u8 79),AV.sc (.int .u8 66),AV.sc (.int .u8 67),AV.sc (.int .u8 79),AV.sc (.int .u8 68),AV.sc (.int .u8 69)])=(tg k).map u8:=by
 match k,j with
 |0,_ =>rfl
 |1,_ =>rfl
 |2,_ =>rfl
 |3,_ =>rfl
def UL (s:Nat->zY) (u q l:Nat) (B:AS) (m:Nat) (f:Fr) (σ':AS):Prop:=
 ∃(k o:Nat) (Pl:List Int),m=4-k∧k<=4∧B o=none∧o≠l∧Pl.length=4∧(∀j,j<k->Pl[j]? =some (zN s j:Int))∧
  σ'=(B.set l (.cells 142 (Pl.map bg))).set o (.tok (nF s k).length)∧
  f=gD [(1,.ptr u 0),(4,.ptr q 0),(5,.ah 5 ((nF s k).map u8) (.tok o) false),(6,zI ((56+(iw s k).length:Nat):Int)),(7,.ptr l 0),(36,zI k)]
def UK (s:Nat->zY) (H:zY) (o l j:Nat) (S:AS) (m:Nat) (f:Fr) (σ':AS):Prop:=
 ∃k:Nat,m=4-k∧k<=4∧σ'=S.set o (.tok (H.length+(iw s k).length))∧
  f=gD [(4,.ptr l 0),(5,.ah 5 (H.map u8++(iw s k).map u8) (.tok o) false),(7,.ptr j 0),(79,zI k)]
def TP (j:Nat) (B:AS) (m:Nat) (f:Fr) (σ':AS):Prop:=
 ∃k:Nat,m=4-k∧k<=4∧σ'=B∧f=gD [(1,.ptr j 0),(4,zI k)]
def Uv (s:Nat->zY) (j l tb:Nat) (B:AS) (m:Nat) (f:Fr) (σ':AS):Prop:=
 ∃(k:Nat) (nl:Bool),m=4-k∧k<=4∧σ'=(B.set l (.tok (nF s k).length)).set tb (.tok (iw s k).length)∧
  f=gD [(1,.ptr j 0),(5,.ah 5 ((nF s k).map u8) (.tok l) false),(6,.ah 5 ((iw s k).map u8) (.tok tb) nl),(7,zI k)]
def Uu (bd:zY) (H:zY) (k:Nat) (j l tb:Nat) (B:AS) (m:Nat) (f:Fr) (σ':AS):Prop:=
 ∃(r:Nat) (nl:Bool),m=pad bd.length-r∧r<=pad bd.length∧σ'=B.set tb (.tok (bd.length+r))∧
  f=gD [(1,.ptr j 0),(5,.ah 5 (H.map u8) (.tok l) false),(6,.ah 5 (bd.map u8++List.replicate r (u8 0)) (.tok tb) nl),(7,zI k)]
theorem Es {σ:AS}{id:Nat}{x:cL}(h:σ id=some x):σ.set id x=σ:=by
 funext j;by_cases e:j=id
 .subst e;simp[AS.set,h]
 .simp[AS.set,e]
def JQ (s:Nat->zY) (σ:AS) (r:AV) (σ':AS):Prop:=(65536<(jR s).length∧aq (.cp [.aC,zI 4]) σ r σ')∨(¬65536<(jR s).length∧gy (λj=> .cp [.ah 5 ((jR s).map u8) (.tok j) false,zI 0]) (jR s).length σ r σ')
theorem HX (Y O X V:zY×Bool) (o0 o1 o2 o3:cA) (hl:∀j,(fu Y O X V j).1.length<=65536) (σ:AS):
 ad prog 33 [BF Y O X V o0 o1 o2 o3] σ
  (JQ (λk=>(fu Y O X V k).1) σ) No:=by
 have q0:(65536<(Y.1.length:Int))=False:=by have:=hl 0;simp[fu]at this|-;omega
 have q1:(65536<(O.1.length:Int))=False:=by have:=hl 1;simp[fu]at this|-;omega
 have q2:(65536<(X.1.length:Int))=False:=by have:=hl 2;simp[fu]at this|-;omega
 have q3:(65536<(V.1.length:Int))=False:=by have:=hl 3;simp[fu]at this|-;omega
 generalize f4:(λk=>(fu Y O X V k).1)=s;have c4:∀k,(fu Y O X V k).1=s k:=λk=>by rw[<-f4]
 have cc:∀k,(s k).length<=65536:=λk=>by rw[<-c4];exact hl k
 simp only[BF];refine ad.ob func33 ?_;have hg:=λk hk=>SB Y O X V o0 o1 o2 o3 (k:=k) hk;simp only[sO]at hg|-;refine gO (S:= [4]) aa tI tI ?_;intro bf a5;refine gO (S:= [4]) aa tI tI ?_;intro M v ay;have w:=ba v;refine gO (S:= [4]) aa (j5 @q0 @q1 @q2 @q3 v) tI ?_
 with_reducible apply aA.dB
 refine bQ.sp rfl (iD.kI (by decide) ?_);simp-implicitDefEqProofs [bF];intro id5 ap ar c8;refine bQ.sp rfl (iD.PM (by decide) id5 (e:=5) (m:=8) (([67,71,82,68,1,0,4,0]:zY).map u8) (by simp[ap,ar,c8]) underlying30 rfl underlying5 (by simp) (by simp) (by simp) rfl ?_);refine bQ.rest ?_;simp-implicitDefEqProofs;refine gO aa tI tI ?_;intro L o u ax;have l:=ba o;have D:=ba u;refine aA.fG 5 5 (([67,71,82,68,1,0,4,0]:zY).map u8) false (by simp[ntmps33]) (.inl (by simp)) ?_;simp-implicitDefEqProofs [v,w,o,l,u,D];intro c1 ak al am c6;obtain⟨B,fi,b2,be,ac,ho⟩:=Dr σ (.cells 85 [AV.ah 5 (Y.1.map u8) o0 Y.2,AV.ah 5 (O.1.map u8) o1 O.2,AV.ah 5 (X.1.map u8) o2 X.2,AV.ah 5 (V.1.map u8) o3 V.2]) (.cells 141 [AV.ah 5 (Y.1.map u8) o0 Y.2,AV.ah 5 (O.1.map u8) o1 O.2,AV.ah 5 (X.1.map u8) o2 X.2,AV.ah 5 (V.1.map u8) o3 V.2]) a5 ay w;simp only[fi];clear fi;have hQ:B L=none:=by rw[ac L u o];exact ax
 have gs:B c1=none:=by rw[ac c1 am al];exact c6
 refine gO aa tI tI ?_;refine aA.cz (UL s bf M L B) (k0:=4) ⟨0,c1,[0,0,0,0],rfl,by omega,gs,ak,rfl,by omega,rfl,rfl⟩ (aP.mk (by simp[nF,iw])) (by simp[nF,aG]) ?_;rintro m f σ' ⟨k,tk,Pl,hm,hk,ab,F,gc,es,hs,rfl⟩;have K:=ba F;have h7:σ' L=some (.cells 142 (Pl.map bg)):=by rw[hs];simp[K]
 have ht:σ' tk=some (.tok (nF s k).length):=by rw[hs];simp
 have G:¬M=tk:=nq be ab;have Z:=ba G;have h4:σ' M=B M:=by rw[hs];simp[G,l]
 rw[be]at h4;have hO:=yW (s:=s) (k:=k) (N:=65536) (λj _ =>cc j);have hu:(iw s k).length<=262156:=by have:k*(65536+3)<=4*65539:=Nat.mul_le_mul hk (by omega);omega
 have f3:=MS (iw s k).length;have f5:=yj (iw s k).length;by_cases ce:k<4
 .have hK:((k:Int)<4)=True:=by simp;omega
  have hH:nF s (k+1)=nF s k++aS (zN s k) 4++aS (s k).length 4++tg k:=rfl;have ee:56+(iw s (k+1)).length=zN s k+(s k).length:=by simp only[iw,zN,List.length_append,List.length_replicate];omega
  have et:zN s k=(56+(iw s k).length+3)/4*4:=by rw[zN];omega
  have ge:zN s k<300000:=by rw[zN];omega
  have hI:=cc k;have hP:=tT s k;generalize 56+(iw s k).length=A at et f3|-;obtain⟨p,ec⟩:∃p,zN s k=p:=⟨_,rfl⟩;rw[ec]at hH ee et ge;have e1:IntKind.i64.wrap ((A:Int)+3)=(A:Int)+3:=aI (by omega) (by omega);have e2:((A:Int)+3).tdiv 4=(((A+3)/4:Nat):Int):=by rw[Int.tdiv_eq_ediv_of_nonneg (by omega)];omega
  generalize (A+3)/4=q at*;have e3:IntKind.i64.wrap (q:Int)=(q:Int):=aI (by omega) (by omega);have e4:IntKind.i64.wrap ((q:Int)*4)=(p:Int):=by rw[aI (by omega) (by omega)];omega
  have e5:IntKind.u64.wrap (p:Int)=(p:Int):=gM (by omega) (by omega);have e6:IntKind.u64.wrap ((s k).length:Int)=((s k).length:Int):=gM (by omega) (by omega);have e7:IntKind.i64.wrap ((p:Int)+(s k).length)=((p+(s k).length:Nat):Int):=by rw[aI (by omega) (by omega)];simp
  have cd:=λσ=>mS (nF s k) (.tok tk) false (by simp) (by omega) p 4 (by omega) (by omega) rfl σ;have b0:=λU σ=>mS (nF s k++aS p 4) (.tok U) false (by simp) (by simp[an];omega) (s k).length 4 (by omega) (by omega) rfl σ;simp only[show(4:Int).toNat=4 from rfl]at cd b0;have fa:(nF s k++aS p 4).length=(nF s k).length+4:=by simp[an]
  generalize nF s k++aS p 4=L1 at cd b0 hH fa;have e0:(L1++aS (s k).length 4).length=L1.length+4:=by simp[an]
  generalize L1++aS (s k).length 4=L2 at b0 hH e0;have bb:=hg k ce;rw[c4 k]at bb;have a8:∀h,[AV.ah 5 (Y.1.map u8) o0 Y.2,AV.ah 5 (O.1.map u8) o1 O.2,AV.ah 5 (X.1.map u8) o2 X.2,AV.ah 5 (V.1.map u8) o3 V.2][k]'h=AV.ah 5 ((s k).map u8) (fu o0 o1 o2 o3 k) (fu Y O X V k).2:=λh=>(List.getElem?_eq_some_iff.1 bb).2;have ch:k<Pl.length:=by omega
  have eg:k<(Pl.map bg).length:=by simpa using ch
  refine gO aa (And.intro (j7 @hK @e1 @e2 @e3 @e4 @h4 @h7) (j4 @a8 ce @e5 o)) (Dq M k ce) ?_;refine aj.py (cd _) (λU I=> ?_);have c3:¬U=tk:=by rintro rfl;simp[AS.set,ht,F]at I
  have cb:¬U=L:=by rintro rfl;simp[AS.set]at I
  have f0:¬U=M:=by rintro rfl;simp[AS.set,h4,l]at I
  have I:σ' U=none:=by simpa[AS.set,cb]using I
  have ck:=ba c3;have cj:=ba cb;have ea:=ba f0;simp-implicitDefEqProofs [v,w,o,l,u,D,b2,be];refine gO aa @e6 tI ?_;refine aj.py (b0 U _) (λai E=> ?_);have c2:¬ai=U:=by rintro rfl;simp[AS.set]at E
  have ca:¬ai=tk:=by rintro rfl;simp[AS.set,ht,F,ck]at E
  have a9:¬ai=L:=by rintro rfl;simp[AS.set,cj]at E
  have fz:¬ai=M:=by rintro rfl;simp[AS.set,h4,l,ea]at E
  have E:σ' ai=none:=by simpa[AS.set,a9,c2]using E
  have d9:=ba ca;have d8:=ba a9;have hi:=ba fz;have dn:=ba c2;have e8:IntKind.i64.wrap (4*(k:Int))=4*(k:Int):=aI (by omega) (by omega);have e9:IntKind.i64.wrap (4*(k:Int)+4)=4*(k:Int)+4:=aI (by omega) (by omega);have hb:(4*(k:Int)).toNat=4*k:=by omega
  have g6:(4*(k:Int)+4).toNat=4*k+4:=by omega
  simp-implicitDefEqProofs [v,w,o,l,u,D,b2,be];refine gO aa (j4 @e8 @e9 @hb @g6) tI ?_;refine⟨m-1,_,_,by omega,aP.mk ?_,?_,k+1,ai,Pl.set k p,by omega,by omega,?_,a9,by simpa using gc,λj hj=> ?_,rfl,rfl⟩
  .have hE:List.map u8 (nF s (k+1))=List.map u8 L2++List.map u8 (tg k):=by rw[hH,List.map_append]
   simp[dv (show k<4000000000000000000 by omega),e7,ee,hE,Gw ce]
  .clear cd b0 hg bb a8;have hM:=tT s (k+1);have em:List.take k (List.map bg Pl)++AV.sc (Value.int IntKind.i64 p)::List.drop (k+1) (List.map bg Pl)=(Pl.set k (p:Int)).map bg:=by rw[List.map_set,List.set_eq_take_append_cons_drop,if_pos eg];rfl
   rw[em,show L2.length+min 4 (16-4*k)=(nF s (k+1)).length by omega,hs];have I:B U=none:=by rw[hs]at I;simpa[AS.set,c3,cb]using I
   have E:B ai=none:=by rw[hs]at E;simpa[AS.set,ca,a9]using E
   have F_:=(j2 (j7 @I @E @ab @c3 @ck @cb @cj) (j2 (j7 @ca @d9 @a9 @d8 @c2 @dn F) (j2 (j7 K v w o l u D) (j2 @b2 @be))));intro j_ y_;refine gK F_ j_ L λdl=>gK F_ j_ ai λc9=>gK F_ j_ U λdb=>gK F_ j_ tk λfd=> ?_;intro eb;simp[AS.set,F_,dl,c9,db,fd]at eb|-;try exact eb
  .rw[hs]at E;simpa[AS.set,ca,a9]using E
  .rw[List.getElem?_set];by_cases ek:k=j
   .subst ek;simp[ch,ec]
   .rw[if_neg ek];exact es j (by omega)
 .have hK:((k:Int)<4)=False:=by simp;omega
  obtain rfl:k=4:=by omega
  have c5:=tT s 4;have hq:(jR s).length=56+(iw s 4).length:=by rw[jR,List.length_append,c5]
  by_cases cs:65536<(jR s).length
  .have hA:((65536:Int)<56+((iw s 4).length:Int))=True:=eq_true (by omega);refine gO aa @hA tI ?_;refine⟨_,σ,Wk.refl _,?_,.inl ⟨cs,rfl,rfl⟩⟩;rw[hs];intro j y hj;have O:j≠bf:=nq a5 hj;have a4:j≠M:=nq ay hj;have a7:j≠L:=nq ax hj;have J:¬tk=bf:=nq b2 ab;have av:σ tk=none:=by rw[<-ac tk J Z];exact ab
   have ej:j≠tk:=nq av hj;have:=ac j O a4;simp[AS.set,ej,a7,this,hj]
  have hA:((65536:Int)<56+((iw s 4).length:Int))=False:=eq_false (by omega);refine gO aa @hA tI ?_;generalize gh:nF s 4=H at hs c5 ht;have ei:jR s=H++iw s 4:=by rw[jR,gh]
  generalize hS:B.set L (.cells 142 (Pl.map bg))=S at hs;have f7:S L=some (.cells 142 (Pl.map bg)):=by rw[<-hS];simp
  have f8:S M=some (.cells 141 [AV.ah 5 (Y.1.map u8) o0 Y.2,AV.ah 5 (O.1.map u8) o1 O.2,AV.ah 5 (X.1.map u8) o2 X.2,AV.ah 5 (V.1.map u8) o3 V.2]):=by rw[<-hS];simp[l,be]
  refine aA.cz (UK s H tk M L S) (k0:=4) ⟨0,rfl,by omega,rfl,rfl⟩ (aP.mk (by simp[iw])) (by rw[hs];simp[iw]) ?_;rintro m2 f c0 ⟨j,hG,hj,bs,rfl⟩;have g7:c0 L=some (.cells 142 (Pl.map bg)):=by rw[bs];simp[K,f7]
  have g4:c0 M=some (.cells 141 [AV.ah 5 (Y.1.map u8) o0 Y.2,AV.ah 5 (O.1.map u8) o1 O.2,AV.ah 5 (X.1.map u8) o2 X.2,AV.ah 5 (V.1.map u8) o3 V.2]):=by rw[bs];simp[G,f8]
  have gt:c0 tk=some (.tok (H.length+(iw s j).length)):=by rw[bs];simp
  have hN:=yW (s:=s) (k:=j) (N:=65536) (λj _ =>cc j);have hr:(iw s j).length<=262156:=by have:j*(65536+3)<=4*65539:=Nat.mul_le_mul hj (by omega);omega
  have f5:=yj (iw s j).length;by_cases a6:j<4
  .have hJ:((j:Int)<4)=True:=by simp;omega
   have cv:iw s (j+1)=iw s j++List.replicate (pad (iw s j).length) 0++s j:=rfl;have gb:=es j a6;have hF:zN s j=H.length+(iw s j).length+pad (iw s j).length:=by rw[zN,c5]
   have ch:j<Pl.length:=by omega
   have eo:∀h,Pl[j]'h=(zN s j:Int):=λh=>(List.getElem?_eq_some_iff.1 gb).2;generalize zN s j=p at*;generalize hp:pad (iw s j).length=d at*;have e1:IntKind.i64.wrap ((p:Int)-((H.length:Int)+((iw s j).length:Int)))=(d:Int):=by rw[aI (by omega) (by omega)];omega
   have bb:=hg j a6;rw[c4 j]at bb;have a8:∀h,[AV.ah 5 (Y.1.map u8) o0 Y.2,AV.ah 5 (O.1.map u8) o1 O.2,AV.ah 5 (X.1.map u8) o2 X.2,AV.ah 5 (V.1.map u8) o3 V.2][j]'h=AV.ah 5 ((s j).map u8) (fu o0 o1 o2 o3 j) (fu Y O X V j).2:=λh=>(List.getElem?_eq_some_iff.1 bb).2;have hL:=cc j;have d1:(d:Int)<=1000000:=by omega
   refine gO aa (j2 (j7 @hJ @g7 @g4 @ch @eo @aG @e1) (j6 @a8 @a6 @gt @d1 G @Nat.add_assoc)) (Dq M j a6) ?_;have hE:List.map u8 (iw s (j+1))=List.map u8 (iw s j)++(List.replicate d (u8 0)++List.map u8 (s j)):=by rw[cv,List.map_append,List.map_append,List.map_replicate,List.append_assoc]
   have gl:(iw s (j+1)).length=(iw s j).length+(d+(s j).length):=by rw[cv];simp[Nat.add_assoc]
   refine⟨m2-1,_,_,by omega,aP.mk ?_,?_,j+1,by omega,by omega,rfl,rfl⟩
   .simp[dv (show j<4000000000000000000 by omega),hE,u8]
   .rw[bs,gl];simp
  .have hJ:((j:Int)<4)=False:=by simp;omega
   obtain rfl:j=4:=by omega
   refine gO aa tI tI ?_;have J:¬tk=bf:=nq b2 ab;have av:σ tk=none:=by rw[<-ac tk J Z];exact ab
   refine⟨_,σ.set tk (.tok (jR s).length),?_,?_,.inr ⟨cs,tk,av,rfl,rfl⟩⟩
   .rw[ei];exact du (by simp)
   rw[bs,<-hS,ei];intro j y hj;by_cases ej:j=tk
   .subst ej;simpa[AS.set]using hj
   .have ci:σ j=some y:=by simpa[AS.set,ej]using hj
    have O:j≠bf:=nq a5 ci;have a4:j≠M:=nq ay ci;have a7:j≠L:=nq ax ci;have:=ac j O a4;simp[AS.set,ej,a7,this,ci]
theorem EC (a0 a1 a2 a3:zY×Bool) (o0 o1 o2 o3:cA) (hl:∀j,(fu a0 a1 a2 a3 j).1.length<=65536) (σ:AS):
 ad prog 39 [BF a0 a1 a2 a3 o0 o1 o2 o3] σ
  (JQ (λk=>(fu a0 a1 a2 a3 k).1) σ) No:=by
 have a9:=λk hk σ=>zC a0 a1 a2 a3 o0 o1 o2 o3 k hk σ;generalize eb:(λk=>(fu a0 a1 a2 a3 k).1)=s;have cj:∀k,(fu a0 a1 a2 a3 k).1=s k:=λk=>by rw[<-eb]
 have bv:∀k,(s k).length<=65536:=λk=>by rw[<-cj];exact hl k
 simp only[BF,sO,cj]at*;refine ad.ob func39 ?_;refine gO aa tI tI ?_;intro M ak;refine gO aa tI tI ?_;obtain⟨B,db,U,a7,es⟩:=zQ σ (.cells 85 [AV.ah 5 (a0.1.map u8) o0 a0.2,AV.ah 5 (a1.1.map u8) o1 a1.2,AV.ah 5 (a2.1.map u8) o2 a2.2,AV.ah 5 (a3.1.map u8) o3 a3.2]) ak;simp only[db];clear db;refine aA.cz (TP M B) (k0:=4) ⟨0,rfl,by omega,rfl,rfl⟩ (aP.mk (by simp)) (lR _) ?_;rintro m f σ' ⟨k,hm,hk,rfl,rfl⟩;by_cases am:k<4
 .have hK:((k:Int)<4)=True:=by simp;omega
  have ec:(65536<((s k).length:Int))=False:=by have:=bv k;simp;omega
  refine gO aa (j3 @hK @U @ec) (a9 k am) ?_;exact⟨m-1,_,_,by omega,aP.mk (by simp[dv (show k<4000000000000000000 by omega)]),lR _,k+1,by omega,by omega,rfl,rfl⟩
 have hK:((k:Int)<4)=False:=by simp;omega
 refine gO (S:= [10]) aa @hK tI ?_;intro Z be;have l:¬M=Z:=nq U be;have u:=ba l;refine gO (S:= [10]) aa tI tI ?_;refine aA.fG 6 5 [] true (by simp[ntmps39]) (.inr ⟨by simp,rfl,rfl⟩) ?_;simp-implicitDefEqProofs [U,u,l];intro tb L a5;have K:=ba L;have o:¬M=tb:=nq U a5;have F:=ba o;refine gO aa tI tI ?_;refine aA.cz (Uv s M Z tb σ') (k0:=4) ⟨0,true,rfl,by omega,rfl,rfl⟩ (aP.mk (by simp[nF,iw,u8])) (by simp[nF,iw]) ?_;clear hm hk am hK;rintro m1 f al ⟨k,nl,hm,hk,ai,rfl⟩;have g1:al M=some (.cells 85 [AV.ah 5 (a0.1.map u8) o0 a0.2,AV.ah 5 (a1.1.map u8) o1 a1.2,AV.ah 5 (a2.1.map u8) o2 a2.2,AV.ah 5 (a3.1.map u8) o3 a3.2]):=by rw[ai];simp[o,l,U]
 have gh:al Z=some (.tok (nF s k).length):=by rw[ai];simp[K]
 have gb:al tb=some (.tok (iw s k).length):=by rw[ai];simp
 have fd:=yW (s:=s) (k:=k) (N:=65536) (λj _ =>bv j);have e1:(iw s k).length<=262156:=by have:k*(65536+3)<=4*65539:=Nat.mul_le_mul hk (by omega);omega
 have fe:=tT s k;by_cases am:k<4
 .have hK:((k:Int)<4)=True:=by simp;omega
  have hH:nF s (k+1)=nF s k++aS (zN s k) 4++aS (s k).length 4++tg k:=rfl;have c2:iw s (k+1)=iw s k++List.replicate (pad (iw s k).length) 0++s k:=rfl;have e9:zN s k=56+(iw s k).length+pad (iw s k).length:=rfl;generalize nF s k=H at*;generalize iw s k=bd at*;generalize zN s k=p at*;refine gO aa @hK tI ?_;refine aA.cz (Uu bd H k M Z tb al) (k0:=pad bd.length) ⟨0,nl,by omega,by omega,rfl,rfl⟩ (aP.mk (by simp)) (by rw[Nat.add_zero,Es gb];exact lR _) ?_;rintro m2 f a8 ⟨r,d9,fa,hr,af,rfl⟩;have et:=yj bd.length;have e0:=MT bd.length;have X:a8 tb=some (.tok (bd.length+r)):=by rw[af];simp
  have w1:IntKind.i64.wrap ((bd.length:Int)+r)=(bd.length:Int)+r:=aI (by omega) (by omega);have w2:((bd.length:Int)+r).tmod 4=((bd.length:Int)+r)%4:=Int.tmod_eq_emod_of_nonneg (by omega);by_cases e8:r<pad bd.length
  .have hz:(((bd.length:Int)+r)%4=0)=False:=by simp;unfold pad at*;omega
   refine gO aa (j3 @w2 @hz @X) tI ?_;refine⟨m2-1,_,_,by omega,aP.mk ?_,?_,r+1,false,by omega,by omega,rfl,rfl⟩
   .simp[List.replicate_succ',u8]
   .rw[af];simp[Nat.add_assoc]
  .obtain rfl:r=pad bd.length:=by omega
   have hz:(((bd.length:Int)+(pad bd.length:Nat))%4=0)=True:=by simp;omega
   have w3:IntKind.i64.wrap (56+((bd.length:Int)+(pad bd.length:Nat)))=(p:Int):=by rw[aI (by omega) (by omega)];omega
   have w4:IntKind.u64.wrap (p:Int)=(p:Int):=gM (by omega) (by omega);have fb:=bv k;have w5:IntKind.u64.wrap ((s k).length:Int)=((s k).length:Int):=gM (by omega) (by omega);have b1:=λσ=>eN p 4 (by omega) (by omega) (by omega) (by omega) σ;have b0:=λσ=>eN (s k).length 4 (by omega) (by omega) (by omega) (by omega) σ;simp only[show(4:Int).toNat=4 from rfl]at b1 b0;have ce:=λσ=>JK k am σ;have a6:a8 Z=some (.tok H.length):=by rw[af];simp[K,gh]
   have Y:a8 M=some (.cells 85 [AV.ah 5 (a0.1.map u8) o0 a0.2,AV.ah 5 (a1.1.map u8) o1 a1.2,AV.ah 5 (a2.1.map u8) o2 a2.2,AV.ah 5 (a3.1.map u8) o3 a3.2]):=by rw[af];simp[o,g1]
   refine gO aa (j4 @w2 @w3 @w4 @hz) tI ?_;refine aj.py (b1 _) (λt1 ax=> ?_);have w:¬Z=t1:=nq a6 ax;have A:=ba w;have v:¬tb=t1:=nq X ax;have D:=ba v;have q:¬M=t1:=nq Y ax;have G:=ba q;simp-implicitDefEqProofs [an,U,u,l,F,o,A,w,a6,D,v,X,G,q,Y];refine gO aa (j3 l q @Y) tI ?_;refine aj.aL (a9 k am _) ?_;simp-implicitDefEqProofs [an,w5,U,u,l,F,o,A,w,a6,D,v,X,G,q,Y];refine gO aa tI tI ?_;refine aj.py (b0 _) (λt2 V=> ?_);have q1:¬t2=Z:=by rintro rfl;simp[AS.set]at V
   have q2:¬t2=t1:=by rintro rfl;simp[AS.set,q1]at V
   have V:a8 t2=none:=by simpa[AS.set,q1,q2]using V
   have E:¬tb=t2:=nq X V;have J:=ba E;have I:¬M=t2:=nq Y V;have O:=ba I;have bf:=ba q1;have b4:=ba q2;simp-implicitDefEqProofs [an,q1,bf,q2,b4,U,u,l,F,o,A,w,a6,D,v,X,G,q,Y,J,E,O,I];have cd:=Gt k;have ee:bd.length<=262156:=by omega
   refine gO aa (j2 (j7 @an @q1 @bf @cd @X L l) (j5 v q @Y E I)) (j2 @ce (a9 k am)) ?_;have c0:(nF s (k+1)).length=H.length+12:=by rw[hH];simp[an,cd]
   have c1:(iw s (k+1)).length=bd.length+(pad bd.length+(s k).length):=by rw[c2];simp[Nat.add_assoc]
   have eg:List.map u8 (nF s (k+1))=List.map u8 H++(List.map u8 (aS p 4)++(List.map u8 (aS (s k).length 4)++List.map u8 (tg k))):=by rw[hH];simp
   have ei:List.map u8 (iw s (k+1))=List.map u8 bd++(List.replicate (pad bd.length) (u8 0)++List.map u8 (s k)):=by rw[c2];simp
   refine⟨m1-1,_,_,by omega,aP.mk ?_,?_,k+1,d9&&(s k).isEmpty,by omega,by omega,rfl,rfl⟩
   .simp[dv (show k<4000000000000000000 by omega),eg,ei,u8]
   .rw[c0,c1,af,ai];clear b1 b0 a9 ce;have ci:σ' t1=none:=by rw[af,ai]at ax;simpa[AS.set,A,D]using ax
    have ch:σ' t2=none:=by rw[af,ai]at V;simpa[AS.set,q1,J]using V
    rw[show H.length+8+4=H.length+12 by omega,show bd.length+pad bd.length+(s k).length=bd.length+(pad bd.length+(s k).length) by omega];have F_:=(j2 (j7 @ci @ch @q1 @bf @q2 @b4 K) (j2 (j7 L A D J w v E) (j2 (j7 @U u l F o A w) (j2 (j7 @a6 D v @X G q @Y) (j4 J E O I)))));intro j_ y_;refine gK F_ j_ Z λc4=>gK F_ j_ tb λc5=>gK F_ j_ t1 λc8=>gK F_ j_ t2 λc6=> ?_;intro cc;simp[AS.set,F_,c4,c5,c8,c6]at cc|-;try exact cc
 .have hK:((k:Int)<4)=False:=by simp;omega
  obtain rfl:k=4:=by omega
  have w1:IntKind.i64.wrap (((nF s 4).length:Int)+((iw s 4).length:Int))=((nF s 4).length:Int)+((iw s 4).length:Int):=aI (by omega) (by omega);have ee:(iw s 4).length<=262156:=by omega
  have bb:jR s=nF s 4++iw s 4:=rfl;have av:σ Z=none:=by rw[<-a7 Z u];exact be
  have ay:AS.le (σ.set Z (.tok ((nF s 4).length+(iw s 4).length))) (al.set Z (.tok ((nF s 4).length+(iw s 4).length)))∧AS.le σ al:=by
   rw[ai];refine⟨λj y hj=> ?_,λj y hj=> ?_⟩
   .by_cases ej:j=Z
    .subst ej;simpa[AS.set]using hj
    .have cs:σ j=some y:=by simpa[AS.set,ej]using hj
     have a1:j≠M:=nq ak cs;have a4:σ' j=some y:=by rw[a7 j a1];exact cs
     have a2:j≠tb:=nq a5 a4;simp[AS.set,ej,a2,a4]
   .have ej:j≠Z:=nq av hj;have a1:j≠M:=nq ak hj;have a4:σ' j=some y:=by rw[a7 j a1];exact hj
    have a2:j≠tb:=nq a5 a4;simp[AS.set,ej,a2,a4]
  by_cases cv:65536<(nF s 4).length+(iw s 4).length
  .have hA:((65536:Int)<((nF s 4).length:Int)+((iw s 4).length:Int))=True:=by simp;omega
   refine gO aa (j3 @hA @w1 @gh) tI ?_;exact⟨_,_,Wk.refl _,ay.2,.inl ⟨by rw[bb,List.length_append];exact cv,rfl,rfl⟩⟩
  .have hA:((65536:Int)<((nF s 4).length:Int)+((iw s 4).length:Int))=False:=by simp;omega
   refine gO aa (j3 @hA @w1 @gh) tI ?_;refine⟨_,σ.set Z (.tok (jR s).length),?_,?_,.inr ⟨by rw[bb,List.length_append];exact cv,Z,av,rfl,rfl⟩⟩
   .rw[bb];exact du (by simp)
   .rw[bb,List.length_append];exact ay.1
theorem ED (y q w v:zY×Bool) (M L K J:cA) (hL:y.1.length<=140737488355328∧q.1.length<=140737488355328∧w.1.length<=140737488355328∧v.1.length<=140737488355328)
 (hb:65536<y.1.length∨65536<q.1.length∨65536<w.1.length∨65536<v.1.length) (σ:AS):
 ad prog 39 [BF y q w v M L K J] σ (aq (.cp [.aC,zI 4]) σ) No:=by
 have E:=λk X σ=>zC y q w v M L K J k X σ;generalize O:(λk=>(fu y q w v k).1)=s;have l:∀k,(fu y q w v k).1=s k:=λk=>by rw[<-O]
 have S:∃k,k<4∧65536<(s k).length:=by
  rcases hb with h|h|h|h
  .exact⟨0,by omega,by rw[<-l];exact h⟩
  .exact⟨1,by omega,by rw[<-l];exact h⟩
  .exact⟨2,by omega,by rw[<-l];exact h⟩
  .exact⟨3,by omega,by rw[<-l];exact h⟩
 simp only[BF,sO,l]at*;refine ad.ob func39 ?_;refine gO aa tI tI ?_;intro D o;refine gO aa tI tI ?_;obtain⟨B,I,G,H,U⟩:=zQ σ (.cells 85 [AV.ah 5 (y.1.map u8) M y.2,AV.ah 5 (q.1.map u8) L q.2,AV.ah 5 (w.1.map u8) K w.2,AV.ah 5 (v.1.map u8) J v.2]) o;simp only[I];clear I;refine aA.cz (λm f σ'=>TP D B m f σ'∧ ∀j,j<4-m->(s j).length<=65536) (k0:=4) ⟨⟨0,rfl,by omega,rfl,rfl⟩,by omega⟩ (aP.mk (by simp)) (lR _) ?_;rintro m f σ' ⟨⟨k,hm,X,rfl,rfl⟩,u⟩;by_cases F:k<4
 .have Y:((k:Int)<4)=True:=by simp;omega
  by_cases ab:65536<(s k).length
  .have A:(65536<((s k).length:Int))=True:=by simp;omega
   refine gO aa (j3 @Y @G @A) (E k F) ?_;intro j x V;have q:j≠D:=nq o V;rw[H j q];exact V
  .have A:(65536<((s k).length:Int))=False:=by simp;omega
   refine gO aa (j3 @Y @G @A) (E k F) ?_;refine⟨m-1,_,_,by omega,aP.mk (by simp[dv (show k<4000000000000000000 by omega)]),lR _,⟨k+1,by omega,by omega,rfl,rfl⟩,λj Z=> ?_⟩;by_cases e:j=k
   .subst e;omega
   .exact u j (by omega)
 .obtain⟨j,Z,ac⟩:=S;have:=u j (by omega);omega
end St
namespace Im
variable {P:Program} {n:Nat} {ds:List Deferred} {Q:AQ} {s:Fr} {c:Code}
def zx:List AV->List (Nat×TypeId)->List Nat->List AV
 |cs,(k,e)::l,t::j=>zx (cs.set k (.ah e [] (.tok t) true)) l j
 |cs,_,_ =>cs
theorem aA.DA (id:Nat) {ty:TypeId} :∀(o:List (Nat×TypeId)) {σ:AS}{cs:List AV},σ id=some (.cells ty cs)->(∀p∈o,p.1<cs.length∧cs.getD p.1 .any= .aC)->(o.map (·.1)).Nodup->
 (∀(l:List Nat) (σ':AS),l.length=o.length->l.Nodup->(∀t∈l,σ t=none)->σ' id=some (.cells ty (zx cs o l))->(∀t∈l,σ' t=some (.tok 0))->(∀j,j≠id->j ∉ l->σ' j=σ j)->aA P n ds c Q s σ')->aA P n ds c Q s σ:=by
 intro o;induction o with
 |nil=>intro σ cs h1 _ _ h;exact h [] σ rfl List.nodup_nil (λt ht=>by cases ht) h1 (λt ht=>by cases ht) (λ_ _ _ =>rfl)
 |cons p o I=>
  intro σ cs h1 G D h;obtain⟨k,e⟩:=p;obtain⟨K,J⟩:=G (k,e) (by simp);simp only[List.map_cons,List.nodup_cons]at D;refine aA.sI id k e [] true h1 K (.inr ⟨J,rfl,rfl⟩) λv w=> ?_;have y:id≠v:=nq w h1;refine I (cs:=cs.set k (.ah e [] (.tok v) true)) (by rw[AS.ag _ _ y,AS.aD]) (λq F=> ?_) D.2 λl σ' Y X V U S H=> ?_
  .obtain⟨O,M⟩:=G q (by simp[F]);have A:k≠q.1:=λL=>D.1 (List.mem_map.2 ⟨q,F,L.symm⟩);exact⟨by simpa using O,by rw[List.getD_eq_getElem?_getD,List.getElem?_set_ne A,<-List.getD_eq_getElem?_getD];exact M⟩
  .have u:∀t∈l,t≠v∧t≠id∧σ t=none:=λt ht=>by
    have:=V t ht;have t1:t≠v:=by rintro rfl;simp at this
    have t2:t≠id:=by rintro rfl;rw[AS.ag _ _ t1]at this;simp at this
    exact⟨t1,t2,by rw[AS.ag _ _ t1,AS.ag _ _ t2]at this;exact this⟩
   refine h (v::l) σ' (by simp[Y]) (List.nodup_cons.2 ⟨λhm=>(u v hm).1 rfl,X⟩) (λt ht=> ?_) U (λt ht=> ?_) λj E j2=> ?_
   .rcases List.mem_cons.1 ht with rfl|ht
    .exact w
    .exact(u t ht).2.2
   .rcases List.mem_cons.1 ht with rfl|ht
    .rw[H _ y.symm (λhm=>(u _ hm).1 rfl),AS.aD];rfl
    .exact S t ht
   .simp only[List.mem_cons,not_or]at j2;rw[H j E j2.2,AS.ag _ _ j2.1,AS.ag _ _ E]
abbrev Fz:=Nat×TypeId×List AV
def mU:List Fz->AS->AS
 |[],σ=>σ
 |p::r,σ=>(mU r σ).set p.1 (.cells p.2.1 (aR p.2.2))
theorem oa {j:Nat} :∀ {L:List Fz}{σ:AS},(∀p∈L,p.1≠j)->mU L σ j=σ j
 |[],_,_ =>rfl
 |p::r,σ,h=>by rw[mU,AS.ag _ _ (λe=>h p (by simp) e.symm)];exact oa λq l=>h q (by simp[l])
def Tj (P:Program) (G:Gh) (p:Fz):Prop:= ∀y,aU P G (.dg p.1 0 p.2.2.length p.2.2.length) y->aU P G (.ah p.2.1 p.2.2 .full false) y
theorem Inv.Kz {w:World} :∀ {L:List Fz}{σ:AS}{G:Gh},Inv P G (mU L σ) w->(∀p∈L,σ p.1=none)->(L.map (·.1)).Nodup->(∀p∈L,∀v∈p.2.2,v.cells.length=P.cellsOf p.2.1)->
 ∃G',G.Le G'∧Inv P G' σ w∧ ∀p∈L,Tj P G' p:=by
 intro L;induction L with
 |nil=>intro σ G o _ _ _;exact⟨G,.refl G,o,λp K=>by cases K⟩
 |cons p L I=>
  intro σ G o h1 A E;simp only[List.map_cons,List.nodup_cons]at A;have h0:mU L σ p.1=none:=by rw[oa λq j e=>A.1 (List.mem_map.2 ⟨q,j,e⟩)];exact h1 p (by simp)
  obtain⟨b,_,D,_⟩:=o.cells p.1 p.2.1 (aR p.2.2) (by simp[mU]);obtain⟨O,g1,g2,g3⟩:=Inv.freeze o h0 rfl (E p (by simp));obtain⟨M,k1,H,F⟩:=I g2 (λq j=>h1 q (by simp[j])) A.2 (λq j=>E q (by simp[j]));refine⟨M,g1.trans k1,H,λq j=> ?_⟩;rcases List.mem_cons.1 j with rfl|j
  .intro y J;refine(g3 y ?_).mono k1;have u:=(g1.trans k1).inj _ _ D;cases J with
   |dg l=>rw[u]at l;cases l;exact .dg D
  .exact F q j
theorem ad.le {f:FuncId}{j:List AV}{σ τ:AS}{R l:AV->AS->Prop}(h:ad P f j σ R l) (hle:AS.le σ τ):ad P f j τ R l:=
 ⟨h.body,λG w vals q o=>h.run G w vals (q.weaken hle) o⟩
theorem ad.PB {f:FuncId}{u j:List AV}{R A:AV->AS->Prop}{σ:AS}(L:List Fz) (h:ad P f j σ R A) (h1:∀p∈L,σ p.1=none) (I:(L.map (·.1)).Nodup) (H:∀p∈L,∀v∈p.2.2,v.cells.length=P.cellsOf p.2.1)
 (D:∀(G:Gh) (xs:Array Value),(∀p∈L,Tj P G p)->wJ P G u xs->wJ P G j xs):ad P f u (mU L σ) R A:=by
 refine⟨h.body,λG w vals F E=> ?_⟩;obtain⟨G',hle,l,conv⟩:=Inv.Kz F h1 I H;refine(h.run G' w vals l (D _ _ conv (E.mono hle))).mono λe w' he=> ?_;unfold jC at he|-;split at he
 .obtain⟨q,σ',r,g1,g2,g3,o⟩:=he;exact⟨q,σ',r,hle.trans g1,g2,g3,o⟩
 .obtain⟨x,y,q,σ',r,g1,g2,g3,o⟩:=he;exact⟨x,y,q,σ',r,hle.trans g1,g2,g3,o⟩
 .exact he.elim
theorem qH {G:Gh}{e:TypeId}{es l:List AV}{o:cA}{nl:Bool}{y:Value}(he:P.cellsOf e=1) (hl:l.length=es.length) (h1:∀i (h:i<es.length),es[i].cells= [es[i]]∧(l[i]'(by omega)).cells= [l[i]'(by omega)])
 (h:∀i (u:i<es.length) y,aU P G es[i] y->aU P G (l[i]'(by omega)) y) (w:aU P G (.ah e es o nl) y):aU P G (.ah e l .aJ nl) y:=by
 have g1:∀i (u:i<es.length),es.getD i .any=es[i]:=λi u=>by rw[List.getD_eq_getElem?_getD,List.getElem?_eq_getElem u];rfl
 have g2:∀i (u:i<es.length),l.getD i .any=l[i]'(by omega):=λi u=>by rw[List.getD_eq_getElem?_getD,List.getElem?_eq_getElem (by omega)];rfl
 cases w with
 |jw F=>have:l= []:=List.length_eq_zero_iff.1 (by simpa using hl);subst this;exact .jw trivial
 |ah vs J E D I H=>
  rename_i b off cap;have:= @aU.ah P G e l .aJ b off cap vs (λi u=>by rw[g2 i (by omega),(h1 i (by omega)).2,he];rfl) (λk v=>E k (by rw[hl]at v;exact v)) (λi j u A=>by
   rw[he]at A;obtain rfl:j=0:=by omega
   have q:i<es.length:=by omega
   have:=D i 0 q (by omega);rw[g1 i q,(h1 i q).1]at this;rw[g2 i q,(h1 i q).2];exact h i q _ this) (by omega) trivial
  rw[hl]at this;exact this
 |mZ=>have:l= []:=List.length_eq_zero_iff.1 (by simpa using hl);subst this;exact .mZ
open Tryz
open Sg (aE bL bI fW fX iJ cD)
open Pl (sV)
variable {k:SK} {g:bZ} {d:SD} {T:SR} {B τ:AS}
theorem wS {j:Nat}{b:cL} :∀ {X:List (Nat×List Int)}{σ:AS},(∀p∈X,p.1≠j)->mL X (σ.set j b)=(mL X σ).set j b
 |[],_,_ =>rfl
 |p::r,σ,h=>by rw[mL,mL,<-wS λq l=>h q (by simp[l]),AS.set_comm (h p (by simp)).symm]
theorem Dc:∀ {X:List (Nat×List Int)}{σ:AS},(X.map (·.1)).Nodup-> ∀p∈X,mL X σ p.1=some (MF p)
 |[],_,_,p,j=>by cases j
 |q::r,σ,h,p,j=>by
  simp only[List.map_cons,List.nodup_cons]at h;rw[mL];rcases List.mem_cons.1 j with rfl|j
  .rw[ep λx l e=>h.1 (List.mem_map.2 ⟨x,l,e⟩),AS.aD]
  .exact Dc h.2 p j
def B1 (T:SR) (t c:Nat) (P:List Int):SR:=T.modify t λx=>(x.1,x.2.map (xd c P))
def rp (c:Nat) (P:List Int) (r:List Int):List Int:=r.set c (P.getD (r.getD c 0).toNat 0)
theorem Gx (T:SR) (t c:Nat) (P:List Int):cH (B1 T t c P)=(cH T).modify t (·.map (rp c P)):=by
 unfold cH B1;induction T generalizing t with
 |nil=>cases t<;>rfl
 |cons x r j=>
  cases t with
  |zero=>simp[xd,rp,Function.comp_def]
  |succ t=>simpa using j t
theorem JZ (T:SR) (t c:Nat) (P:List Int):(B1 T t c P).map (·.1)=T.map (·.1):=by
 unfold B1;induction T generalizing t with
 |nil=>cases t<;>rfl
 |cons x r j=>cases t with
  |zero=>simp
  |succ t=>simpa using j t
theorem JY (T:SR) (t c:Nat) (P:List Int):((B1 T t c P).flatMap λx=>x.2.map (·.1))=T.flatMap λx=>x.2.map (·.1):=by
 unfold B1;induction T generalizing t with
 |nil=>cases t<;>rfl
 |cons x r j=>cases t with
  |zero=>simp[xd,Function.comp_def]
  |succ t=>simpa using j t
theorem MQ (T:SR) (t c:Nat) (P:List Int):(B1 T t c P).map zp=T.map zp:=by
 unfold B1;induction T generalizing t with
 |nil=>cases t<;>rfl
 |cons x r j=>cases t with
  |zero=>simp[zp,xd,F7,Function.comp_def]
  |succ t=>simpa using j t
theorem Dp {T:SR}{t c:Nat}{P:List Int}{y:Nat×List (Nat×List Int)}(o:y∈B1 T t c P):(∃j,j≠t∧T[j]? =some y)∨ ∃x,T[t]? =some x∧y=(x.1,x.2.map (xd c P)):=by
 obtain⟨j,l,rfl⟩:=List.getElem_of_mem o;simp only[B1,List.length_modify]at l;simp only[B1,List.getElem_modify];split
 .rename_i e;subst e;exact .inr ⟨T[t],by simp[l],rfl⟩
 .rename_i e;exact .inl ⟨j,λq=>e q.symm,by simp[l]⟩
theorem Fb:∀ {T:SR},(T.flatMap λx=>x.2.map (·.1)).Nodup-> ∀ {i j:Nat}{x y:Nat×List (Nat×List Int)},T[i]? =some x->T[j]? =some y->i≠j-> ∀p∈x.2,∀q∈y.2,p.1≠q.1:=by
 intro T;induction T with
 |nil=>intro _ i j x y h;simp at h
 |cons z r D=>
  intro h i j x y l o w p u q v;simp only[List.flatMap_cons]at h;obtain⟨h1,E,A⟩:=List.nodup_append.1 h;have mem:∀ {i:Nat} {x:Nat×List (Nat×List Int)} {p:Nat×List Int},r[i]? =some x->p∈x.2->p.1∈r.flatMap λx=>x.2.map (·.1):=λl u=>List.mem_flatMap.2 ⟨_,List.mem_of_getElem? l,List.mem_map.2 ⟨_,u,rfl⟩⟩;cases i with
  |zero=>
   simp only[List.getElem?_cons_zero,Option.some.injEq]at l;subst l;cases j with
   |zero=>exact absurd rfl w
   |succ j=>simp only[List.getElem?_cons_succ]at o;exact A p.1 (List.mem_map.2 ⟨p,u,rfl⟩) q.1 (mem o v)
  |succ i=>
   simp only[List.getElem?_cons_succ]at l;cases j with
   |zero=>simp only[List.getElem?_cons_zero,Option.some.injEq]at o;subst o;exact λe=>A q.1 (List.mem_map.2 ⟨q,v,rfl⟩) p.1 (mem l u) e.symm
   |succ j=>simp only[List.getElem?_cons_succ]at o;exact D E l o (by omega) p u q v
theorem SI.pl (h:SI k g d T B τ) {t c:Nat}{P:List Int}{x:Nat×List (Nat×List Int)}(ht:T[t]? =some x):SI k g d (B1 T t c P) B (mL (x.2.map (xd c P)) τ)∧(x.2.map (·.1)).Nodup∧(∀p∈x.2.map (xd c P),p.1≠k.aF):=by
 have o:x∈T:=List.mem_of_getElem? ht;have D:=List.nodup_append.1 h.dE;have J:(x.2.map (·.1)).Nodup:=by have:=D.2.1;exact List.Nodup.sublist (List.sublist_flatten_of_mem (List.mem_map.2 ⟨x,o,rfl⟩):(x.2.map (·.1)).Sublist _) (by simpa[List.flatMap]using this)
 have H:((x.2.map (xd c P)).map (·.1)).Nodup:=by simpa[xd,Function.comp_def]using J
 have out:∀p∈x.2.map (xd c P),p.1≠k.aF∧p.1≠k.bj∧p.1≠k.tS∧p.1≠k.tL∧p.1≠k.tN∧p.1≠k.tB∧p.1≠k.tC:=by intro p l;obtain⟨q,A,rfl⟩:=List.mem_map.1 l;exact h.qn o (p:=q) A
 have w:∀y∈T,∀p∈x.2.map (xd c P),p.1≠y.1:=by intro y G p l;obtain⟨q,A,rfl⟩:=List.mem_map.1 l;exact λe=>D.2.2 y.1 (List.mem_map.2 ⟨y,G,rfl⟩) q.1 (List.mem_flatMap.2 ⟨x,o,List.mem_map.2 ⟨q,A,rfl⟩⟩) e.symm
 have I:keys k (B1 T t c P)=keys k T:=by unfold keys;rw[JZ,JY]
 refine⟨⟨?_,?_,?_,?_,?_,?_,?_,λy G=> ?_,λy G p l=> ?_,λj b E=> ?_,by simpa[B1]using h.qj,by rw[I];exact h.nd,by rw[I];exact h.fr⟩,J,λp l=>(out p l).1⟩
 .rw[ep λp l=>(out p l).1];exact h.aF
 .rw[ep λp l=>(out p l).2.1,MQ];exact h.bj
 .rw[ep λp l=>(out p l).2.2.1];exact h.tS
 .rw[ep λp l=>(out p l).2.2.2.1];exact h.tL
 .rw[ep λp l=>(out p l).2.2.2.2.1];exact h.tN
 .rw[ep λp l=>(out p l).2.2.2.2.2.1];exact h.tB
 .rw[ep λp l=>(out p l).2.2.2.2.2.2];exact h.tC
 .rcases Dp G with⟨j,E,v⟩|⟨K,u,rfl⟩
  .have F:=List.mem_of_getElem? v;rw[ep (w y F)];exact h.vX y F
  .rw[ht]at u;cases u;rw[ep (w x o)];simpa using h.vX x o
 .rcases Dp G with⟨j,E,v⟩|⟨K,u,rfl⟩
  .rw[ep λq A=> ?_]
   .exact h.row y (List.mem_of_getElem? v) p l
   .obtain⟨z,L,rfl⟩:=List.mem_map.1 A;exact Fb D.2.1 ht v (Ne.symm E) z L p l
  .rw[ht]at u;cases u;exact Dc H p l
 .rw[ep λp l e=> ?_]
  .exact h.le j b E
  .obtain⟨q,A,rfl⟩:=List.mem_map.1 l;have:=h.fr q.1 (by simp only[keys,List.mem_cons,List.mem_append,List.mem_flatMap,List.mem_map];exact .inr (.inr (.inr (.inr (.inr (.inr (.inr (.inr ⟨x,o,q,A,rfl⟩))))))));have M:q.1=j:=e;rw[<-M,this]at E;cases E
def SJ (k:SK) (g:bZ) (d:SD) (T:SR) (B:AS) (en:Int) (τ:AS):Prop:= ∃j,SI k g d T B j∧τ=j.set k.aF (.cells 74 (uz k g d en))
theorem SJ.aF {en:Int}(h:SJ k g d T B en τ):τ k.aF=some (.cells 74 (uz k g d en)):=by obtain⟨j,_,rfl⟩:=h;exact AS.aD _ _ _
theorem SJ.place {en:Int}(h:SJ k g d T B en τ) {t c:Nat}{P:List Int}{op:cA}{np:Bool}{x:Nat×List (Nat×List Int)}(ht:T[t]? =some x) (E:x.2.length<=100000) (G:P.length<=100000)
 (F:∀p∈x.2,c<p.2.length∧0<=p.2.getD c 0∧(p.2.getD c 0).toNat<P.length∧p.2.length<=1000):
 ad prog 31 [.ptr k.aF 0,zI t,zI c,.ah 3 (P.map bg) op np] τ (λr j=>r= .cp []∧SJ k g d (B1 T t c P) B en j) No:=by
 have o:=h.aF;obtain⟨v,h0,rfl⟩:=h;obtain⟨A,y,w⟩:=h0.pl (c:=c) (P:=P) ht;have l:x∈T:=List.mem_of_getElem? ht;have u:=h0.ne.1;refine(Hl t c x.2 P (T.map zp) k.aF k.bj (.tok x.1) (decide (x.2= [])) op np _ _ _ _ _ _ _ _ _ _ _ _ E (by simpa using h0.qj) G _ o (by rw[AS.ag _ _ (Ne.symm u)];exact h0.bj) (by rw[List.getElem?_map,ht];rfl) (λp q=> ?_) y).mono (λr j D=> ?_) (λ_ _ h=>h)
 .refine⟨?_,F p q⟩;rw[AS.ag _ _ (h0.qn l q).1];exact h0.row x l p q
 .obtain⟨rfl,rfl⟩:=D;exact⟨rfl,_,A,wS w⟩
end Im
end Go.Proofs.YtknalmoackcpbaaGreat
namespace Go.Proofs.YtknalmoackcpbaaGreat
namespace St
open Tryz
theorem HY (q o l u:zY×Bool) (H G F E:cA) (M:q.1.length<=140737488355328∧o.1.length<=140737488355328∧l.1.length<=140737488355328∧u.1.length<=140737488355328)
 (L:65536<q.1.length∨65536<o.1.length∨65536<l.1.length∨65536<u.1.length) (σ:AS):
 ad prog 33 [BF q o l u H G F E] σ (aq (.cp [.aC,zI 4]) σ) No:=by
 simp only[BF,sO];refine ad.ob func33 ?_;refine gO aa tI tI ?_;intro J w;refine gO aa tI tI ?_;intro I j v;have hle:AS.le σ ((σ.set J (.cells 85 [AV.ah 5 (q.1.map u8) H q.2,AV.ah 5 (o.1.map u8) G o.2,AV.ah 5 (l.1.map u8) F l.2,AV.ah 5 (u.1.map u8) E u.2])).set I (.cells 141 [AV.ah 5 (q.1.map u8) H q.2,AV.ah 5 (o.1.map u8) G o.2,AV.ah 5 (l.1.map u8) F l.2,AV.ah 5 (u.1.map u8) E u.2])):=
  AS.ao (AS.ao (lR _) w) (by simpa[AS.set,j]using v)
 by_cases c0:65536<q.1.length
 .have y:(65536<(q.1.length:Int))=True:=eq_true (by omega);refine gO aa (j2 @y j) tI ?_;exact hle
 have y:(65536<(q.1.length:Int))=False:=eq_false (by omega);by_cases S:65536<o.1.length
 .have A:(65536<(o.1.length:Int))=True:=eq_true (by omega);refine gO aa (j3 @y @A j) tI ?_;exact hle
 have A:(65536<(o.1.length:Int))=False:=eq_false (by omega);by_cases O:65536<l.1.length
 .have D:(65536<(l.1.length:Int))=True:=eq_true (by omega);refine gO aa (j4 @y @A @D j) tI ?_;exact hle
 have D:(65536<(l.1.length:Int))=False:=eq_false (by omega);have K:(65536<(u.1.length:Int))=True:=eq_true (by omega);refine gO aa (j5 @y @A @D @K j) tI ?_;exact hle
end St
end Go.Proofs.YtknalmoackcpbaaGreat
