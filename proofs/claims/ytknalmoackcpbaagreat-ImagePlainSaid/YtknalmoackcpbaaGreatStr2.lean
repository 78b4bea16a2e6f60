/- Chapter 03: an image is parted, by the program. -/
import Derived.Test.YtknalmoackcpbaaGreatSigL
set_option maxRecDepth 100000
set_option maxHeartbeats 3200000
set_option linter.all false
open Go Go.AW Go.Proofs.Tryz List
namespace Go.Proofs.YtknalmoackcpbaaGreat
namespace St
abbrev dL:bW:=(.S 0 (.S 2 (.S 3 (.S 5 (.U 1 (.R 4 (.R 6 (.S 7 (.A 8 (.S 9 (.A 10 .D .Z)) .Z)))))))))
def cP (S:List Nat):bH prog [(27,dL)] S:=mixed
abbrev qX:=List (zY×Bool)
def sV (x:zY×Bool):AV:= .ao 5 (x.1.map u8) .aI x.2
def E4:qX:= [([],true),([],true),([],true),([],true)]
def zR (o:qX):AV:= .agg (o.map sV)
def eO (b:zY):Nat→Nat→List (Int×Int×Int)→qX→qX×Int×Int
 |0,_,_,o=>(o,0,0)
 |m+1,a,M,o=>
  if nX b.length M (nY (cu b (a+8) 4)) (aY (cu b a 4)) (aY (cu b a 4)+aY (cu b (a+4) 4))=0 then
   eO b m (a+12) (M++ [(nY (cu b (a+8) 4),aY (cu b a 4),aY (cu b a 4)+aY (cu b (a+4) 4))]) (o.set (nY (cu b (a+8) 4)).toNat (cu b (aY (cu b a 4)) (aY (cu b (a+4) 4)),false))
  else(E4,a,nX b.length M (nY (cu b (a+8) 4)) (aY (cu b a 4)) (aY (cu b a 4)+aY (cu b (a+4) 4)))
def LJ:zY:= [67,71,82,68]
def cZ (b:zY):qX×Int×Int:=
 if 65536<b.length then(E4,0,4)else if b.length<56 then(E4,b.length,1)else if b.take 4≠LJ then(E4,0,2)
 else if aY (cu b 4 2)≠1 then(E4,4,2)else if aY (cu b 6 2)≠4 then(E4,6,2)else eO b 4 8 [] E4
def RS (x:qX×Int×Int):AV:= .bI [zR x.1,zI x.2.1,zI x.2.2]
def mL {P:Program}{a b c d o n j g:AV}(h1:AV.Wk P a o) (y:AV.Wk P b n) (w:AV.Wk P c j) (u:AV.Wk P d g):AV.Wk P (.agg [a,b,c,d]) (.agg [o,n,j,g]):=by
 intro G v h;cases h with
 |agg vs l h=>
  refine .agg vs l fun i q=> ?_
  match i,q with
  |0,_ =>exact h1 G _ (h 0 (by simp))
  |1,_ =>exact y G _ (h 1 (by simp))
  |2,_ =>exact w G _ (h 2 (by simp))
  |3,_ =>exact u G _ (h 3 (by simp))
def TW {P:Program} :AV.Wk P (.agg [.ai,.ai,.ai,.ai]) (zR E4):=by refine mL ?_ ?_ ?_ ?_ <;>simp[sV]
def zy {P:Program}{x y:Int} :AV.Wk P (.bI [.agg [.ai,.ai,.ai,.ai],zI x,zI y]) (RS (E4,x,y)):=ju TW (Wk.refl _) (Wk.refl _)
def Ma (t:zY): -1≤nY t∧nY t<4:=by
 unfold nY
 repeat' split
 all_goals omega
def GD {len k a e:Int}{M:List (Int×Int×Int)}(h:nX len M k a e=0):0≤k∧M.any (fun x=>x.1==k)=false∧56≤a∧a%4=0∧e≤len∧M.any (ov a e)=false:=by
 unfold nX at h;split at h
 ·cases h
 rename_i h1;split at h
 ·cases h
 rename_i g;split at h
 ·cases h
 rename_i i;split at h
 ·cases h
 rename_i d;simp only[not_or,Bool.not_eq_true]at h1 g d;refine⟨by omega,h1.2,by omega,by omega,by omega,d⟩
def LX {k a e:Int}{M:List (Int×Int×Int)}(h:M.any (fun x=>x.1==k)=false):yf k (DO a e) (mV M)=mV (M++ [(k,a,e)]):=by
 induction M with
 |nil=>rfl
 |cons x M d=>
  simp only[any_cons,Bool.or_eq_false_iff]at h;have h1:¬k=x.1:=by intro e;simp[e]at h
  have:=d h.2;simp only[mV,map_cons,cons_append,yf]at this⊢;rw[if_neg h1,this]
def QU {P:Program}{L:List AV}{k:Nat}{v d:AV}(g:k<L.length) (h:AV.Wk P v d) (j:Nat):AV.Wk P ((L.take k++v::L.drop (k+1)).getD j .any) ((L.set k d).getD j .any):=by
 have e:L.take k++v::L.drop (k+1)=L.set k v:=by rw[set_eq_take_append_cons_drop,if_pos g]
 rw[e,getD_eq_getElem?_getD,getD_eq_getElem?_getD,getElem?_set,getElem?_set];by_cases i:k=j
 ·subst i;simp[g,h]
 ·simp[i]
def XJ (b:zY) (d bp:Nat) (v:AV) (B:AS) (m:Nat) (f:Fr) (g:AS):Prop:=
 ∃i:Nat,m=2-i∧i≤2∧(0<i→aY (cu b 4 2)=1)∧(1<i→aY (cu b 6 2)=4)∧g=B.set bp (bA b ((4+2*i:Nat):Int) false)∧
  f=iO [(0,v),(2,.ptr d 0),(5,.ptr bp 0),(39,.agg [.sc (.int .u64 1),.sc (.int .u64 4)]),(40,zI i)]
def XI (b:zY) (g bp ba d:Nat) (v:AV) (X:qX×Int×Int) (B:AS) (m:Nat) (f:Fr) (h:AS):Prop:=
 ∃(i:Nat) (M:List (Int×Int×Int)) (o:qX),m=4-i∧i≤4∧o.length=4∧eO b (4-i) (8+12*i) M o=X∧
  h=((B.set bp (bA b ((8+12*i:Nat):Int) false)).set ba (.map (iG (mV M)))).set d (.cells 141 (o.map sV))∧
  f=iO [(0,v),(2,.ptr g 0),(5,.ptr bp 0),(11,.mp ba),(12,.ptr d 0),(57,zI i)]
def I0 (b:List UInt8) (own:cC) (nl:Bool) (hn:nl=true→b= []) (σ:AS) (hlen:b.length≤140737488355328):
 ad prog 44 [.ao 5 (b.map u8) own nl] σ (ah (RS (cZ b)) σ) No:=by
 refine ad.ob func44 ?_;by_cases h1:65536<b.length
 ·have bc:(65536<(b.length:Int))=True:=by simp;omega
  refine gO cP @bc tI ?_;intro V L;refine gO cP @bc tI ?_;rw[cZ,if_pos h1];refine⟨zy,?_⟩;all_goals (repeat (first|exact lR _ |refine an (by simp[L]) ?_))
 have bc:(65536<(b.length:Int))=False:=by simp;omega
 by_cases h2:b.length<56
 ·have b3:((b.length:Int)<56)=True:=by simp;omega
  refine gO cP (j2 @bc @b3) tI ?_;intro V L;refine gO cP (j2 @bc @b3) tI ?_;rw[cZ,if_neg h1,if_pos h2];refine⟨zy,?_⟩;all_goals (repeat (first|exact lR _ |refine an (by simp[L]) ?_))
 have b3:((b.length:Int)<56)=False:=by simp;omega
 have es:nl=false:=by
  cases nl with
  |false=>rfl
  |true=>rw[hn rfl]at h2;simp at h2
 subst es;have h4:xR (List.take 4 (b.map u8))=some (b.take 4):=by rw[←map_take];exact qL _
 have fw:(4:Int)≤b.length:=by omega
 by_cases h3:b.take 4=LJ
 ·have ck:((b.take 4)= [67,71,82,68])=True:=by simp[h3,LJ]
  refine gO cP (j4 @bc @b3 @h4 @ck) tI ?_;intro V L;refine gO cP (j4 @bc @b3 @h4 @ck) tI ?_;refine ag.of (oB b own false hn hlen _) ?_ (fun _ _ h=>h.elim);rintro r σ1 ⟨bp,af,rfl,rfl⟩;have n:¬bp=V:=by rintro rfl;simp at af
  have d:=aK n;have af:σ bp=none:=by simpa[AS.set,n]using af
  simp-implicitDefEqProofs;refine gO cP tI tI ?_;refine ag.ay (zV bp b 0 4 false _ (by simp) (by omega) (by omega) hlen (by omega) (by omega)) ?_;simp-implicitDefEqProofs;obtain⟨B,eg,ch,cl,d3⟩:=JM σ (.cells 85 [.ai,.ai,.ai,.ai]) L;simp only[eg];clear eg;have e6:B bp=none:=by rw[cl bp n];exact af
  refine gO cP tI tI ?_;refine aq.dc (XJ b V bp (.ao 5 (b.map u8) own false) B) (k0:=2) ⟨0,rfl,by omega,by omega,by omega,rfl,rfl⟩ (aN.mk (by simp)) ?_ ?_
  ·simp
  rintro m f σ' ⟨i,hm,hi,g1,g2,hs,rfl⟩;have ap:σ' bp=some (bA b ((4+2*i:Nat):Int) false):=by rw[hs];simp
  have a8:σ' V=some (.cells 85 [.ai,.ai,.ai,.ai]):=by rw[hs];simp[d,ch]
  by_cases et:i<2
  ·obtain rfl|rfl:i=0∨i=1:=by omega
   ·have ap:σ' bp=some (bA b 4 false):=by rw[hs];simp
    have bf:=pf bp b 4 false σ' ap;have be:=lN bp b 4 2 false σ' ap (by omega) (by omega) hlen rfl (by omega);by_cases hc:aY (cu b 4 2)=1
    ·refine gO cP (j3 @a8 @hc d) (j2 @bf @be) ?_;refine⟨m-1,_,_,by omega,aN.mk (by simp),?_,1,by omega,by omega,fun _ =>hc,by omega,rfl,rfl⟩;rw[hs];simp
    ·refine gO cP (j3 @a8 @hc d) (j2 @bf @be) ?_;rw[cZ,if_neg h1,if_neg h2,if_neg (by simpa using h3),if_pos hc];refine⟨zy,?_⟩;rw[hs];have F_:=(j5 L af n d @ch);intro j_ y_;refine gK F_ j_ V fun b5=>gK F_ j_ bp fun a0=> ?_;intro a6;simp[AS.set,b5,a0]at a6⊢;try exact a6
     exact cl _ (by assumption) ▸ a6
   ·have ap:σ' bp=some (bA b 6 false):=by rw[hs];simp
    have g1:=g1 (by omega);have bf:=pf bp b 6 false σ' ap;have be:=lN bp b 6 2 false σ' ap (by omega) (by omega) hlen rfl (by omega);by_cases hc:aY (cu b 6 2)=4
    ·refine gO cP (j3 @a8 @hc d) (j2 @bf @be) ?_;refine⟨m-1,_,_,by omega,aN.mk (by simp),?_,2,by omega,by omega,fun _ =>g1,fun _ =>hc,rfl,rfl⟩;rw[hs];simp
    ·refine gO cP (j3 @a8 @hc d) (j2 @bf @be) ?_;rw[cZ,if_neg h1,if_neg h2,if_neg (by simpa using h3),if_neg (by simpa using g1),if_pos hc];refine⟨zy,?_⟩;rw[hs];have F_:=(j5 L af n d @ch);intro j_ y_;refine gK F_ j_ V fun b5=>gK F_ j_ bp fun a0=> ?_;intro a6;simp[AS.set,b5,a0]at a6⊢;try exact a6
     exact cl _ (by assumption) ▸ a6
  ·have hI:((i:Int)<2)=False:=by simp;omega
   obtain rfl:i=2:=by omega
   have g1:=g1 (by omega);have g2:=g2 (by omega);have hX:cZ b=eO b 4 8 [] E4:=by rw[cZ,if_neg h1,if_neg h2,if_neg (by simpa using h3),if_neg (by simpa using g1),if_neg (by simpa using g2)]
   rw[hX];have ap:σ' bp=some (bA b 8 false):=by rw[hs];simp
   have d4:AS.le σ σ':=by
    rw[hs];exact d3 _ fun j hj y hy=>by
     have:j≠bp:=by rintro rfl;rw[e6]at hy;cases hy
     simpa[AS.set,this]using hy
   clear hs;refine gO cP tI tI ?_;intro ba b2;have l:¬bp=ba:=nq ap b2;have q:=aK l;have F:¬V=ba:=nq a8 b2;have ac:=aK F;simp-implicitDefEqProofs;refine gO cP tI tI ?_;intro al O b1;have u:¬bp=al:=nq ap b1;have H:=aK u;have I:¬V=al:=nq a8 b1;have ab:=aK I;have av:=aK O;refine aq.Om al (E4.map sV) (by simp;exact⟨rfl,rfl⟩) (by simp[E4]) (fun k hk=> ?_) ?_
   ·match k,hk with
    |0,_ =>simp[E4,sV]
    |1,_ =>simp[E4,sV]
    |2,_ =>simp[E4,sV]
    |3,_ =>simp[E4,sV]
   simp-implicitDefEqProofs;refine gO cP tI tI ?_;generalize d7:eO b 4 8 [] E4=X;refine aq.dc (XI b V bp ba al (.ao 5 (b.map u8) own false) X σ') (k0:=4) ⟨0,[],E4,rfl,by omega,rfl,d7,rfl,rfl⟩ (aN.mk (by simp)) ?_ ?_
   ·intro j y hj;by_cases ej:j=bp
    ·subst ej;have hy:bA b 8 false=y:=by simpa[AS.set,l,u]using hj
     simp[AS.set,l,u,ap,hy]
    ·simpa[AS.set,ej,iG,mV]using hj
   rintro m f σ2 ⟨i,M,o,hm,hi,ho,hX,hs,rfl⟩;have c4:∀S:AS,(∀j,j≠V→j≠bp→j≠ba→j≠al→ ∀y,σ2 j=some y→S j=some y)→AS.le σ S:=by intro S h j y hj;have c8:=d4 j y hj;have a1:j≠V:=nq L hj;have a2:j≠bp:=nq af hj;have a3:j≠ba:=nq b2 c8;have a4:j≠al:=nq b1 c8;refine h j a1 a2 a3 a4 y ?_;rw[hs];simp[AS.set,a2,a3,a4,c8]
   clear d7;generalize hc:8+12*i=c at hX hs;generalize hv:AV.ao 5 (b.map u8) own false=bv;have gR:σ2 bp=some (bA b c false):=by rw[hs];simp[l,u]
   have gM:σ2 ba=some (.map (iG (mV M))):=by rw[hs];simp[av]
   have gO:σ2 al=some (.cells 141 (o.map sV)):=by rw[hs];simp
   have g2:σ2 V=some (.cells 85 [.ai,.ai,.ai,.ai]):=by rw[hs];simp[F,I,d,a8]
   by_cases et:i<4
   ·have hI:((i:Int)<4)=True:=by simp;omega
    have bf:=pf bp b c false σ2 gR;have bb:=KR bp b c false σ2 (by simp) gR (by omega) (by omega) hlen;rw[show 4-i=(4-(i+1))+1 by omega,eO]at hX;have e0:0≤aY (cu b c 4):=ct _;have e1:0≤aY (cu b (c+4) 4):=ct _;have e2:=Ma (cu b (c+8) 4);generalize aY (cu b c 4)=x at bb hX e0;generalize aY (cu b (c+4) 4)=y at bb hX e1;generalize nY (cu b (c+8) 4)=k at bb hX e2;simp only[DO]at bb;have cd:=fun σ h=>IB ba k x (x+y) b.length M σ e0 h;simp only[DO]at cd;repeat (first
     |(with_reducible first|apply aq.seq|apply aq.block|refine j2 (by first|omega|assumption|decide) ?_)
     |((first|(with_reducible first|apply aq.fork|apply aq.region|show cJ _ _ _ |show bx _ _ _ _ _ _ _ _ _)|((with_reducible apply aq.iL (id:=27) (t:=dL));(exact mixed);kernel_rfl;kernel_rfl;(repeat (with_reducible first|apply bo.then|apply bo.block|apply bo.body|apply bo.no)))|((with_reducible apply ag.id);first|apply ag.ay (bf)|apply ag.ay (bb))|((with_reducible apply aD.id);first|apply aD.ay (fun _ =>bf)|apply aD.ay (fun _ =>bb)));simp-implicitDefEqProofs [hI])
     |((with_reducible first|apply aq.ret|apply aq.skip|apply aq.exit);try simp-implicitDefEqProofs))
    intro ar fk b4;have w:¬V=ar:=nq g2 b4;have P:=aK w;have g:¬ba=ar:=nq gM b4;have E:=aK g;have v:¬al=ar:=nq gO b4;have K:=aK v;have G:¬bp=ar:=nq gR b4;have J:=aK G;by_cases hw:nX b.length M k x (x+y)=0
    ·rw[if_pos hw]at hX;rw[hw]at cd;repeat (first
      |(with_reducible first|apply aq.seq|apply aq.block|refine j2 (by first|omega|assumption|decide) ?_)
      |((first|(with_reducible first|apply aq.fork|((fail_if_success (apply aq.region (id:=26)));apply aq.region)|show cJ _ _ _ |show bx _ _ _ _ _ _ _ _ _)|((with_reducible apply aq.iL (id:=27) (t:=dL));(exact mixed);kernel_rfl;kernel_rfl;(repeat (with_reducible first|apply bo.then|apply bo.block|apply bo.body|apply bo.no)))|((with_reducible apply ag.id);first|apply ag.ay (cd _ (by simp[AS.set,g,q,gM])))|((with_reducible apply aD.id);first|apply aD.ay (fun _ =>cd _ (by simp[AS.set,g,q,gM]))));simp-implicitDefEqProofs [←hv])
      |((with_reducible first|apply aq.ret|apply aq.skip|apply aq.exit);try simp-implicitDefEqProofs))
     with_reducible apply aq.eJ
     refine bq.first 3 ?_;simp-implicitDefEqProofs;refine bq.sp rfl (ia.Ef ba k (mV M) underlying167 underlying3 (by simp) (by simp) (by simp[g,q,gM]) ?_);refine bq.rest ?_;simp-implicitDefEqProofs;obtain⟨w1,w2,w3,w4,w5,w6⟩:=GD hw;obtain⟨kn,rfl⟩:=Int.eq_ofNat_of_zero_le w1;have d6:kn<4:=by omega
     have hu:=LX (a:=x) (e:=x+y) w2;simp only[DO]at hu;rw[hu];generalize d8:AV.ao 5 (b.map u8) own false=bv;have d5:0≤x:=e0;have e3:x≤x+y:=by omega
     repeat (first
      |(with_reducible first|apply aq.seq|apply aq.block|refine j2 (by first|omega|assumption|decide) ?_)
      |((first|(with_reducible first|apply aq.fork|apply aq.region|show cJ _ _ _ |show bx _ _ _ _ _ _ _ _ _)|((with_reducible apply aq.iL (id:=27) (t:=dL));(exact mixed);kernel_rfl;kernel_rfl;(repeat (with_reducible first|apply bo.then|apply bo.block|apply bo.body|apply bo.no)))|((with_reducible apply ag.id);first|apply ag.ay (vp al kn d6 _))|((with_reducible apply aD.id);first|apply aD.ay (fun _ =>vp al kn d6 _)));simp-implicitDefEqProofs [d5,w5,←d8,E])
      |((with_reducible first|apply aq.ret|apply aq.skip|apply aq.exit);try simp-implicitDefEqProofs [d5,e3,w5,←d8,n,d,ch,q,l,ap,ac,F,a8,H,u,ab,I,P,w,g2,E,g,gM,K,v,gO,J,G,gR]))
     rw[show List.drop x.toNat (List.take (x+y).toNat (List.map u8 b))=(cu b x y).map u8 by simp[cu,map_drop,map_take]];have er:(cu b x y).length≤140737488355328:=by simp[cu];omega
     refine ag.yo (p9 _ .aI false (by simp) (by simpa using er) _) (fun tk b0=> ?_);have Q:¬tk=bp:=by rintro rfl;simp[AS.set,l,G]at b0
     have Y:¬tk=ar:=by rintro rfl;simp[AS.set,E]at b0
     have T:¬tk=ba:=by rintro rfl;simp[AS.set]at b0
     have am:¬tk=al:=by rintro rfl;simp[AS.set,H,O,v,gO]at b0
     have ca:¬tk=V:=by rintro rfl;simp[AS.set,d,F,w,g2]at b0
     have c6:σ2 tk=none:=by simpa[AS.set,Q,Y,T]using b0
     clear b0;have a9:=aK am;have cb:=aK Q;have bs:=aK Y;have cc:=aK T;have dn:=aK ca;have ew:kn<o.length:=by omega
     simp-implicitDefEqProofs [a9,O,H,v,gO];refine⟨by omega,?_⟩;refine aq.Om al ((o.set kn (cu b x y,false)).map sV) (by simp;exact⟨rfl,rfl⟩) (by simp;omega) (fun j hj=> ?_) ?_
     ·rw[map_set];refine QU (by simpa using ew) ?_ j;simp[sV]
     simp-implicitDefEqProofs;repeat (first
      |(with_reducible first|apply aq.seq|apply aq.block|refine j2 (by first|omega|assumption|decide) ?_)
      |((first|(with_reducible first|apply aq.fork|apply aq.region|show cJ _ _ _ |show bx _ _ _ _ _ _ _ _ _)|((with_reducible apply aq.iL (id:=27) (t:=dL));(exact mixed);kernel_rfl;kernel_rfl;(repeat (with_reducible first|apply bo.then|apply bo.block|apply bo.body|apply bo.no))));simp-implicitDefEqProofs)
      |((with_reducible first|apply aq.ret|apply aq.skip|apply aq.exit);try simp-implicitDefEqProofs [n,d,ch,q,l,ap,ac,F,a8,H,u,ab,I,P,w,g2,E,g,gM,K,v,gO,J,G,gR]))
     have c9:σ' tk=none:=by rw[hs]at c6;simpa[AS.set,am,T,Q]using c6
     have d9:σ' ar=none:=by rw[hs]at b4;simpa[AS.set,K,E,J]using b4
     have e4:((8+12*(i+1):Nat):Int)=(c:Int)+12:=by omega
     refine⟨m-1,_,_,by omega,aN.mk ?_,?_,i+1,M++ [((kn:Int),x,x+y)],o.set kn (cu b x y,false),by omega,by omega,by simpa using ho,?_,rfl,rfl⟩
     ·simp[gW (show i<4000000000000000000 by omega)]
     ·rw[hs,e4,map_set];have F_:=(j2 (j7 c9 @d9 Q cb T cc am) (j2 (j7 a9 Y bs av O n d) (j2 (j7 @ch q l @ap ac F @a8) (j2 (j7 H u ab I P w @g2) (j2 (j7 E g @gM K v @gO J) (j2 G @gR))))));intro j_ y_;refine gK F_ j_ bp fun a0=>gK F_ j_ ba fun dl=>gK F_ j_ al fun de=>gK F_ j_ tk fun ea=>gK F_ j_ ar fun c1=> ?_;intro a6;simp[AS.set,a0,dl,de,ea,c1]at a6⊢;try exact a6
     ·rw[←hX,←hc];rfl
    ·rw[if_neg hw]at hX;repeat (first
      |(with_reducible first|apply aq.seq|apply aq.block|refine j2 (by first|omega|assumption|decide) ?_)
      |((first|(with_reducible first|apply aq.fork|apply aq.region|show cJ _ _ _ |show bx _ _ _ _ _ _ _ _ _)|((with_reducible apply aq.iL (id:=27) (t:=dL));(exact mixed);kernel_rfl;kernel_rfl;(repeat (with_reducible first|apply bo.then|apply bo.block|apply bo.body|apply bo.no)))|((with_reducible apply ag.id);first|apply ag.ay (cd _ (by simp[AS.set,g,q,gM])))|((with_reducible apply aD.id);first|apply aD.ay (fun _ =>cd _ (by simp[AS.set,g,q,gM]))));simp-implicitDefEqProofs [hw,←hv,d,w,g2])
      |((with_reducible first|apply aq.ret|apply aq.skip|apply aq.exit);try simp-implicitDefEqProofs))
     rw[←hX];refine⟨zy,?_⟩;refine c4 _ fun j a1 a2 a3 a4 y hy=> ?_;have a5:j≠ar:=nq b4 hy;simp[AS.set,a1,a2,a5,hy]
   ·have hI:((i:Int)<4)=False:=by simp;omega
    obtain rfl:i=4:=by omega
    simp only[Nat.sub_self,eO]at hX
    match o,ho with
    |[o0,o1,o2,o3],_ =>
     simp only[map_cons,map_nil,sV]at gO;repeat (first
      |(with_reducible first|apply aq.seq|apply aq.block|refine j2 (by first|omega|assumption|decide) ?_)
      |((first|(with_reducible first|apply aq.fork|apply aq.region|show cJ _ _ _ |show bx _ _ _ _ _ _ _ _ _)|((with_reducible apply aq.iL (id:=27) (t:=dL));(exact mixed);kernel_rfl;kernel_rfl;(repeat (with_reducible first|apply bo.then|apply bo.block|apply bo.body|apply bo.no))));simp-implicitDefEqProofs [gO,g2])
      |((with_reducible first|apply aq.ret|apply aq.skip|apply aq.exit);try simp-implicitDefEqProofs))
     rw[←hX];refine⟨Wk.refl _,?_⟩;refine c4 _ fun j a1 a2 a3 a4 y hy=> ?_;simp[AS.set,a1,hy]
 ·have ck:((b.take 4)= [67,71,82,68])=False:=by simpa[LJ]using h3
  refine gO cP (j4 @bc @b3 @h4 @ck) tI ?_;intro V L;refine gO cP (j4 @bc @b3 @h4 @ck) tI ?_;rw[cZ,if_neg h1,if_neg h2,if_pos h3];refine⟨zy,?_⟩;all_goals (repeat (first|exact lR _ |refine an (by simp[L]) ?_))
def sO (x:zY×Bool) (o:cC):AV:= .ao 5 (x.1.map u8) o x.2
def R4 (o n l j:zY×Bool) (i h g d:cC):AV:= .agg [sO o i,sO n h,sO l g,sO j d]
def iN {α:Type}(i h g d:α):Nat→α
 |0=>i
 |1=>h
 |2=>g
 | _ =>d
def pad (n:Nat):Nat:=(4-n%4)%4
def jY (s:Nat→zY):Nat→zY
 |0=> []
 |k+1=>jY s k++List.replicate (pad (jY s k).length) 0++s k
def mh (s:Nat→zY) (k:Nat):Nat:=56+(jY s k).length+pad (jY s k).length
def uI (s:Nat→zY):Nat→zY
 |0=> [67,71,82,68,1,0,4,0]
 |k+1=>uI s k++aX (mh s k) 4++aX (s k).length 4++tg k
def jg (s:Nat→zY):zY:=uI s 4++jY s 4
def DH (k:Nat):(tg k).length=4:=by unfold tg;split<;>rfl
def sk (s:Nat→zY) (k:Nat):(uI s k).length=8+12*k:=by
 induction k with
 |zero=>rfl
 |succ k d=>simp only[uI,length_append,d,aA,DH];omega
def Ah (n:Nat):pad n<4:=by unfold pad;omega
def PU (n:Nat):(n+pad n)%4=0:=by unfold pad;omega
def PT (n:Nat):(56+n+3)/4*4=56+n+pad n:=by unfold pad;omega
def A6 {s:Nat→zY}{k N:Nat}(d:∀j,j<k→(s j).length≤N):(jY s k).length≤k*(N+3):=by
 induction k with
 |zero=>simp[jY]
 |succ k g=>have h1:=g (fun j h=>d j (by omega));have l:=d k (by omega);have i:=Ah (jY s k).length;simp only[jY,length_append,length_replicate];have:(k+1)*(N+3)=k*(N+3)+(N+3):=Nat.succ_mul _ _;omega
def J0 {α β:Type}(f:α→β) (i h g d:α) (k:Nat):f (iN i h g d k)=iN (f i) (f h) (f g) (f d) k:=by unfold iN;split<;>rfl
def V8 (o n l j:zY×Bool) (i h g d:cC) {k:Nat}(q:k<4): [sO o i,sO n h,sO l g,sO j d][k]? =some (sO (iN o n l j k) (iN i h g d k)):=by
 match k,q with
 |0,_ =>rfl
 |1,_ =>rfl
 |2,_ =>rfl
 |3,_ =>rfl
def IM {k:Nat}(d:k<4):List.take 4 (List.drop (4*k) [AV.sc (.int .u8 82),AV.sc (.int .u8 79),AV.sc (.int .u8 87),AV.sc (.int .u8 83),AV.sc (.int .u8 78),AV.sc (.int .u8 65),AV.sc (.int .u8 77),AV.sc (.int .u8 69),AV.sc (.int .u8 66),AV.sc (.int .u8 76),AV.sc (.int .u8 79),AV.sc (.int .u8 66),AV.sc (.int .u8 67),AV.sc (.int .u8 79),AV.sc (.int .u8 68),AV.sc (.int .u8 69)])=(tg k).map u8:=by
 match k,d with
 |0,_ =>rfl
 |1,_ =>rfl
 |2,_ =>rfl
 |3,_ =>rfl
def X3 (s:Nat→zY) (i h d:Nat) (B:AS) (m:Nat) (f:Fr) (l:AS):Prop:=
 ∃(k g:Nat) (Pl:List Int),m=4-k∧k≤4∧B g=none∧g≠d∧Pl.length=4∧(∀j,j<k→Pl[j]? =some (mh s j:Int))∧
  l=(B.set d (.cells 142 (Pl.map aS))).set g (.tok (uI s k).length)∧
  f=iO [(1,.ptr i 0),(4,.ptr h 0),(5,.ao 5 ((uI s k).map u8) (.tok g) false),(6,zI ((56+(jY s k).length:Nat):Int)),(7,.ptr d 0),(36,zI k)]
def X2 (s:Nat→zY) (H:zY) (h g d:Nat) (S:AS) (m:Nat) (f:Fr) (i:AS):Prop:=
 ∃k:Nat,m=4-k∧k≤4∧i=S.set h (.tok (H.length+(jY s k).length))∧
  f=iO [(4,.ptr g 0),(5,.ao 5 (H.map u8++(jY s k).map u8) (.tok h) false),(7,.ptr d 0),(79,zI k)]
def JQ (s:Nat→zY) (σ:AS) (r:AV) (d:AS):Prop:=(65536<(jg s).length∧ah (.bI [.ai,zI 4]) σ r d)∨(¬65536<(jg s).length∧kQ (fun g=> .bI [.ao 5 ((jg s).map u8) (.tok g) false,zI 0]) (jg s).length σ r d)
theorem Kn (Q L P O:zY×Bool) (o0 o1 o2 o3:cC) (hl:∀j,(iN Q L P O j).1.length≤65536) (σ:AS):
 ad prog 33 [R4 Q L P O o0 o1 o2 o3] σ
  (JQ (fun k=>(iN Q L P O k).1) σ) No:=by
 have q0:(65536<(Q.1.length:Int))=False:=by have:=hl 0;simp[iN]at this⊢;omega
 have q1:(65536<(L.1.length:Int))=False:=by have:=hl 1;simp[iN]at this⊢;omega
 have q2:(65536<(P.1.length:Int))=False:=by have:=hl 2;simp[iN]at this⊢;omega
 have q3:(65536<(O.1.length:Int))=False:=by have:=hl 3;simp[iN]at this⊢;omega
 generalize fk:(fun k=>(iN Q L P O k).1)=s;have c3:∀k,(iN Q L P O k).1=s k:=fun k=>by rw[←fk]
 have cc:∀k,(s k).length≤65536:=fun k=>by rw[←c3];exact hl k
 simp only[R4];refine ad.ob func33 ?_;have hg:=fun k hk=>V8 Q L P O o0 o1 o2 o3 (k:=k) hk;simp only[sO]at hg⊢;refine gO (S:= [4]) aa tI tI ?_;intro be a5;refine gO (S:= [4]) aa tI tI ?_;intro K n av;have o:=aK n;refine gO (S:= [4]) aa (j5 @q0 @q1 @q2 @q3 n) tI ?_
 with_reducible apply aq.eJ
 refine bq.sp rfl (ia.lX (by decide) ?_);simp-implicitDefEqProofs [bF];intro id5 am ap c6;refine bq.sp rfl (ia.Tp (by decide) id5 (e:=5) (m:=8) (([67,71,82,68,1,0,4,0]:zY).map u8) (by simp[am,ap,c6]) underlying30 rfl underlying5 (by simp) (by simp) (by simp) rfl ?_);refine bq.rest ?_;simp-implicitDefEqProofs;refine gO aa tI tI ?_;intro J i l ar;have g:=aK i;have u:=aK l;refine aq.fy 5 5 (([67,71,82,68,1,0,4,0]:zY).map u8) false (by simp[ntmps33]) (.inl (by simp)) ?_;simp-implicitDefEqProofs [n,o,i,g,l,u];intro c0 ac af al c5;obtain⟨B,es,b2,bc,X,hb⟩:=FP σ (.cells 85 [AV.ao 5 (Q.1.map u8) o0 Q.2,AV.ao 5 (L.1.map u8) o1 L.2,AV.ao 5 (P.1.map u8) o2 P.2,AV.ao 5 (O.1.map u8) o3 O.2]) (.cells 141 [AV.ao 5 (Q.1.map u8) o0 Q.2,AV.ao 5 (L.1.map u8) o1 L.2,AV.ao 5 (P.1.map u8) o2 P.2,AV.ao 5 (O.1.map u8) o3 O.2]) a5 av o;simp only[es];clear es;have hI:B J=none:=by rw[X J l i];exact ar
 have f9:B c0=none:=by rw[X c0 al af];exact c5
 refine gO aa tI tI ?_;refine aq.dc (X3 s be K J B) (k0:=4) ⟨0,c0,[0,0,0,0],rfl,by omega,f9,ac,rfl,by omega,rfl,rfl⟩ (aN.mk (by simp[uI,jY])) (by simp[uI,aF]) ?_;rintro m f σ' ⟨k,Y,Pl,hm,hk,V,w,f4,eb,hs,rfl⟩;have I:=aK w;have h7:σ' J=some (.cells 142 (Pl.map aS)):=by rw[hs];simp[I]
 have ht:σ' Y=some (.tok (uI s k).length):=by rw[hs];simp
 have E:¬K=Y:=nq bc V;have T:=aK E;have h4:σ' K=B K:=by rw[hs];simp[E,g]
 rw[bc]at h4;have hF:=A6 (s:=s) (k:=k) (N:=65536) (fun j _ =>cc j);have hi:(jY s k).length≤262156:=by have:k*(65536+3)≤4*65539:=Nat.mul_le_mul hk (by omega);omega
 have fi:=PT (jY s k).length;have ft:=Ah (jY s k).length;by_cases ce:k<4
 ·have hK:((k:Int)<4)=True:=by simp;omega
  have hH:uI s (k+1)=uI s k++aX (mh s k) 4++aX (s k).length 4++tg k:=rfl;have d5:56+(jY s (k+1)).length=mh s k+(s k).length:=by simp only[jY,mh,List.length_append,List.length_replicate];omega
  have ec:mh s k=(56+(jY s k).length+3)/4*4:=by rw[mh];omega
  have f5:mh s k<300000:=by rw[mh];omega
  have hz:=cc k;have hG:=sk s k;generalize 56+(jY s k).length=A at ec fi⊢;obtain⟨p,d4⟩:∃p,mh s k=p:=⟨_,rfl⟩;rw[d4]at hH d5 ec f5;have e1:IntKind.i64.wrap ((A:Int)+3)=(A:Int)+3:=az (by omega) (by omega);have e2:((A:Int)+3).tdiv 4=(((A+3)/4:Nat):Int):=by rw[Int.tdiv_eq_ediv_of_nonneg (by omega)];omega
  generalize (A+3)/4=q at*;have e3:IntKind.i64.wrap (q:Int)=(q:Int):=az (by omega) (by omega);have e4:IntKind.i64.wrap ((q:Int)*4)=(p:Int):=by rw[az (by omega) (by omega)];omega
  have e5:IntKind.u64.wrap (p:Int)=(p:Int):=ng (by omega) (by omega);have e6:IntKind.u64.wrap ((s k).length:Int)=((s k).length:Int):=ng (by omega) (by omega);have e7:IntKind.i64.wrap ((p:Int)+(s k).length)=((p+(s k).length:Nat):Int):=by rw[az (by omega) (by omega)];simp
  have cd:=fun σ=>ot (uI s k) (.tok Y) false (by simp) (by omega) p 4 (by omega) (by omega) rfl σ;have b0:=fun M σ=>ot (uI s k++aX p 4) (.tok M) false (by simp) (by simp[aA];omega) (s k).length 4 (by omega) (by omega) rfl σ;simp only[show(4:Int).toNat=4 from rfl]at cd b0;have ei:(uI s k++aX p 4).length=(uI s k).length+4:=by simp[aA]
  generalize uI s k++aX p 4=L1 at cd b0 hH ei;have eg:(L1++aX (s k).length 4).length=L1.length+4:=by simp[aA]
  generalize L1++aX (s k).length 4=L2 at b0 hH eg;have bb:=hg k ce;rw[c3 k]at bb;have a8:∀h,[AV.ao 5 (Q.1.map u8) o0 Q.2,AV.ao 5 (L.1.map u8) o1 L.2,AV.ao 5 (P.1.map u8) o2 P.2,AV.ao 5 (O.1.map u8) o3 O.2][k]'h=AV.ao 5 ((s k).map u8) (iN o0 o1 o2 o3 k) (iN Q L P O k).2:=fun h=>(List.getElem?_eq_some_iff.1 bb).2;have ch:k<Pl.length:=by omega
  have d6:k<(Pl.map aS).length:=by simpa using ch
  refine gO aa (And.intro (j7 @hK @e1 @e2 @e3 @e4 @h4 @h7) (j4 @a8 ce @e5 i)) (vp K k ce) ?_;refine ag.yo (cd _) (fun M F=> ?_);have c2:¬M=Y:=by rintro rfl;simp[AS.set,ht,w]at F
  have cb:¬M=J:=by rintro rfl;simp[AS.set]at F
  have fe:¬M=K:=by rintro rfl;simp[AS.set,h4,g]at F
  have F:σ' M=none:=by simpa[AS.set,cb]using F
  have ck:=aK c2;have cj:=aK cb;have dp:=aK fe;simp-implicitDefEqProofs [n,o,i,g,l,u,b2,bc];refine gO aa @e6 tI ?_;refine ag.yo (b0 M _) (fun ab v=> ?_);have c1:¬ab=M:=by rintro rfl;simp[AS.set]at v
  have ca:¬ab=Y:=by rintro rfl;simp[AS.set,ht,w,ck]at v
  have a9:¬ab=J:=by rintro rfl;simp[AS.set,cj]at v
  have fd:¬ab=K:=by rintro rfl;simp[AS.set,h4,g,dp]at v
  have v:σ' ab=none:=by simpa[AS.set,a9,c1]using v
  have dn:=aK ca;have dl:=aK a9;have g6:=aK fd;have de:=aK c1;have e8:IntKind.i64.wrap (4*(k:Int))=4*(k:Int):=az (by omega) (by omega);have e9:IntKind.i64.wrap (4*(k:Int)+4)=4*(k:Int)+4:=az (by omega) (by omega);have gs:(4*(k:Int)).toNat=4*k:=by omega
  have ge:(4*(k:Int)+4).toNat=4*k+4:=by omega
  simp-implicitDefEqProofs [n,o,i,g,l,u,b2,bc];refine gO aa (j4 @e8 @e9 @gs @ge) tI ?_;refine⟨m-1,_,_,by omega,aN.mk ?_,?_,k+1,ab,Pl.set k p,by omega,by omega,?_,a9,by simpa using f4,fun j hj=> ?_,rfl,rfl⟩
  ·have hE:List.map u8 (uI s (k+1))=List.map u8 L2++List.map u8 (tg k):=by rw[hH,List.map_append]
   simp[gW (show k<4000000000000000000 by omega),e7,d5,hE,IM ce]
  ·clear cd b0 hg bb a8;have hC:=sk s (k+1);have d9:List.take k (List.map aS Pl)++AV.sc (Value.int IntKind.i64 p)::List.drop (k+1) (List.map aS Pl)=(Pl.set k (p:Int)).map aS:=by rw[List.map_set,List.set_eq_take_append_cons_drop,if_pos d6];rfl
   rw[d9,show L2.length+min 4 (16-4*k)=(uI s (k+1)).length by omega,hs];have F:B M=none:=by rw[hs]at F;simpa[AS.set,c2,cb]using F
   have v:B ab=none:=by rw[hs]at v;simpa[AS.set,ca,a9]using v
   have F_:=(j2 (j7 @F @v @V @c2 @ck @cb @cj) (j2 (j7 @ca @dn @a9 @dl @c1 @de w) (j2 (j7 I n o i g l u) (j2 @b2 @bc))));intro j_ y_;refine gK F_ j_ J fun c9=>gK F_ j_ ab fun c7=>gK F_ j_ M fun c8=>gK F_ j_ Y fun em=> ?_;intro d3;simp[AS.set,F_,c9,c7,c8,em]at d3⊢;try exact d3
  ·rw[hs]at v;simpa[AS.set,ca,a9]using v
  ·rw[List.getElem?_set];by_cases d8:k=j
   ·subst d8;simp[ch,d4]
   ·rw[if_neg d8];exact eb j (by omega)
 ·have hK:((k:Int)<4)=False:=by simp;omega
  obtain rfl:k=4:=by omega
  have c4:=sk s 4;have he:(jg s).length=56+(jY s 4).length:=by rw[jg,List.length_append,c4]
  by_cases cl:65536<(jg s).length
  ·have hA:((65536:Int)<56+((jY s 4).length:Int))=True:=eq_true (by omega);refine gO aa @hA tI ?_;refine⟨_,σ,Wk.refl _,?_,.inl ⟨cl,rfl,rfl⟩⟩;rw[hs];intro j y hj;have L:j≠be:=nq a5 hj;have a4:j≠K:=nq av hj;have a7:j≠J:=nq ar hj;have G:¬Y=be:=nq b2 V;have bf:σ Y=none:=by rw[←X Y G T];exact V
   have ej:j≠Y:=nq bf hj;have:=X j L a4;simp[AS.set,ej,a7,this,hj]
  have hA:((65536:Int)<56+((jY s 4).length:Int))=False:=eq_false (by omega);refine gO aa @hA tI ?_;generalize f6:uI s 4=H at hs c4 ht;have d7:jg s=H++jY s 4:=by rw[jg,f6]
  generalize hS:B.set J (.cells 142 (Pl.map aS))=S at hs;have fw:S J=some (.cells 142 (Pl.map aS)):=by rw[←hS];simp
  have fz:S K=some (.cells 141 [AV.ao 5 (Q.1.map u8) o0 Q.2,AV.ao 5 (L.1.map u8) o1 L.2,AV.ao 5 (P.1.map u8) o2 P.2,AV.ao 5 (O.1.map u8) o3 O.2]):=by rw[←hS];simp[g,bc]
  refine aq.dc (X2 s H Y K J S) (k0:=4) ⟨0,rfl,by omega,rfl,rfl⟩ (aN.mk (by simp[jY])) (by rw[hs];simp[jY]) ?_;rintro m2 f σ2 ⟨j,hy,hj,bs,rfl⟩;have g7:σ2 J=some (.cells 142 (Pl.map aS)):=by rw[bs];simp[I,fw]
  have g4:σ2 K=some (.cells 141 [AV.ao 5 (Q.1.map u8) o0 Q.2,AV.ao 5 (L.1.map u8) o1 L.2,AV.ao 5 (P.1.map u8) o2 P.2,AV.ao 5 (O.1.map u8) o3 O.2]):=by rw[bs];simp[E,fz]
  have gt:σ2 Y=some (.tok (H.length+(jY s j).length)):=by rw[bs];simp
  have hD:=A6 (s:=s) (k:=j) (N:=65536) (fun j _ =>cc j);have hh:(jY s j).length≤262156:=by have:j*(65536+3)≤4*65539:=Nat.mul_le_mul hj (by omega);omega
  have ft:=Ah (jY s j).length;by_cases a6:j<4
  ·have hJ:((j:Int)<4)=True:=by simp;omega
   have cs:jY s (j+1)=jY s j++List.replicate (pad (jY s j).length) 0++s j:=rfl;have f3:=eb j a6;have hx:mh s j=H.length+(jY s j).length+pad (jY s j).length:=by rw[mh,c4]
   have ch:j<Pl.length:=by omega
   have ea:∀h,Pl[j]'h=(mh s j:Int):=fun h=>(List.getElem?_eq_some_iff.1 f3).2;generalize mh s j=p at*;generalize hc:pad (jY s j).length=d at*;have e1:IntKind.i64.wrap ((p:Int)-((H.length:Int)+((jY s j).length:Int)))=(d:Int):=by rw[az (by omega) (by omega)];omega
   have bb:=hg j a6;rw[c3 j]at bb;have a8:∀h,[AV.ao 5 (Q.1.map u8) o0 Q.2,AV.ao 5 (L.1.map u8) o1 L.2,AV.ao 5 (P.1.map u8) o2 P.2,AV.ao 5 (O.1.map u8) o3 O.2][j]'h=AV.ao 5 ((s j).map u8) (iN o0 o1 o2 o3 j) (iN Q L P O j).2:=fun h=>(List.getElem?_eq_some_iff.1 bb).2;have hB:=cc j;have d1:(d:Int)≤1000000:=by omega
   refine gO aa (j2 (j7 @hJ @g7 @g4 @ch @ea @aF @e1) (j6 @a8 @a6 @gt @d1 E @Nat.add_assoc)) (vp K j a6) ?_;have hE:List.map u8 (jY s (j+1))=List.map u8 (jY s j)++(List.replicate d (u8 0)++List.map u8 (s j)):=by rw[cs,List.map_append,List.map_append,List.map_replicate,List.append_assoc]
   have f7:(jY s (j+1)).length=(jY s j).length+(d+(s j).length):=by rw[cs];simp[Nat.add_assoc]
   refine⟨m2-1,_,_,by omega,aN.mk ?_,?_,j+1,by omega,by omega,rfl,rfl⟩
   ·simp[gW (show j<4000000000000000000 by omega),hE,u8]
   ·rw[bs,f7];simp
  ·have hJ:((j:Int)<4)=False:=by simp;omega
   obtain rfl:j=4:=by omega
   refine gO aa tI tI ?_;have G:¬Y=be:=nq b2 V;have bf:σ Y=none:=by rw[←X Y G T];exact V
   refine⟨_,σ.set Y (.tok (jg s).length),?_,?_,.inr ⟨cl,Y,bf,rfl,rfl⟩⟩
   ·rw[d7];exact ff (by simp)
   rw[bs,←hS,d7];intro j y hj;by_cases ej:j=Y
   ·subst ej;simpa[AS.set]using hj
   ·have ci:σ j=some y:=by simpa[AS.set,ej]using hj
    have L:j≠be:=nq a5 ci;have a4:j≠K:=nq av ci;have a7:j≠J:=nq ar ci;have:=X j L a4;simp[AS.set,ej,a7,this,ci]
def Ko (i h g j:zY×Bool) (E y w v:cC) (J:i.1.length≤140737488355328∧h.1.length≤140737488355328∧g.1.length≤140737488355328∧j.1.length≤140737488355328)
 (I:65536<i.1.length∨65536<h.1.length∨65536<g.1.length∨65536<j.1.length) (σ:AS):
 ad prog 33 [R4 i h g j E y w v] σ (ah (.bI [.ai,zI 4]) σ) No:=by
 simp only[R4,sO];refine ad.ob func33 ?_;refine gO aa tI tI ?_;intro G n;refine gO aa tI tI ?_;intro F d l;have hle:AS.le σ ((σ.set G (.cells 85 [AV.ao 5 (i.1.map u8) E i.2,AV.ao 5 (h.1.map u8) y h.2,AV.ao 5 (g.1.map u8) w g.2,AV.ao 5 (j.1.map u8) v j.2])).set F (.cells 141 [AV.ao 5 (i.1.map u8) E i.2,AV.ao 5 (h.1.map u8) y h.2,AV.ao 5 (g.1.map u8) w g.2,AV.ao 5 (j.1.map u8) v j.2])):=
  AS.aj (AS.aj (lR _) n) (by simpa[AS.set,d]using l)
 by_cases c0:65536<i.1.length
 ·have o:(65536<(i.1.length:Int))=True:=eq_true (by omega);refine gO aa (j2 @o d) tI ?_;exact hle
 have o:(65536<(i.1.length:Int))=False:=eq_false (by omega);by_cases L:65536<h.1.length
 ·have q:(65536<(h.1.length:Int))=True:=eq_true (by omega);refine gO aa (j3 @o @q d) tI ?_;exact hle
 have q:(65536<(h.1.length:Int))=False:=eq_false (by omega);by_cases K:65536<g.1.length
 ·have u:(65536<(g.1.length:Int))=True:=eq_true (by omega);refine gO aa (j4 @o @q @u d) tI ?_;exact hle
 have u:(65536<(g.1.length:Int))=False:=eq_false (by omega);have H:(65536<(j.1.length:Int))=True:=eq_true (by omega);refine gO aa (j5 @o @q @u @H d) tI ?_;exact hle
end St
namespace Pl
def C3 (g ba:Nat) (d:zY) (o:cC) (pl:AV) (σ:AS) (h1:σ g=some (fL d o ba)) (hl:d.length≤140737488355328) (i:¬65536<d.length):
 ad prog 71 [.ptr g 0,pl] σ (ah (.bI [.ao 5 (d.map u8) o false,pl,zI 0]) σ) No:=by
 have h:(65536<(d.length:Int))=False:=by simp;omega
 refine ad.ob func71 ?_;simp only[fL]at h1;exact gE aa (j2 @h1 @h) tI
def gN (s:zY):List (zY×Nat)→Option Nat
 |[]=>none
 |(k,a)::r=>if s=k then some a else gN s r
def qx (s:zY) (d:List (zY×Nat)) (k:zY) (a:Nat):gN s (d++ [(k,a)])=match gN s d with|some x=>some x|none=>if s=k then some a else none:=by
 induction d with
 |nil=>rfl
 |cons p r g=>obtain⟨q,x⟩:=p;by_cases h:s=q<;>simp[gN,h,g]
def tD:List (zY)→zY→List (zY×Nat)→zY×List (zY×Nat)
 |[],p,d=>(p,d)
 |s::r,p,d=>match gN s d with
  |some a=>tD r p (d++ [(s,a)])
  |none=>tD r (p++s++ [0]) (d++ [(s,p.length)])
def bJ (l:List (zY)):zY×List Int×Int:=
 if l.all bD=false then([],[],18)else
 if 65536<(tD l [0] []).1.length then([],[],4)else((tD l [0] []).1,(tD l [0] []).2.map (fun p=>(p.2:Int)),0)
def zh (k:ByteArray) (v:AV) (s:ByteArray):∀d,iq s (kJ k v d)=if s=k then some v else iq s d:=by
 intro d;induction d with
 |nil=>by_cases h:s=k<;>simp[kJ,iq,h]
 |cons p r g=>
  obtain⟨k',j⟩:=p;by_cases h1:k=k'
  ·subst h1;by_cases h:s=k<;>simp[kJ,iq,h]
  ·by_cases h:s=k
   ·subst h;simp[kJ,iq,h1,g]
   ·by_cases i:s=k'
    ·subst i;simp[kJ,iq,h1,h]
    ·simp[kJ,iq,h1,h,i,g]
def PS.put {o:cC}{n:Nat}{l σ:AS}{i:Nat}{b:bP}(h:PS o n l σ) (d:σ i=none∨ ∃x,l i=some x):PS o n (l.set i b) (σ.set i b):=by
 rcases h with⟨rfl,rfl⟩|⟨q,rfl,g,rfl⟩
 ·exact .inl ⟨rfl,rfl⟩
 ·have j:i≠q:=by
   rintro rfl;rcases d with d|⟨x,d⟩
   ·simp[AS.set]at d
   ·rw[g]at d;cases d
  refine .inr ⟨q,rfl,by simp[AS.set,Ne.symm j,g],?_⟩;exact AS.set_comm (Ne.symm j)
def Kk {B:AS}{l i g ba aO:Nat}{a b c d c0 d0 e:bP}(h1:l≠i) (J:l≠g) (I:l≠ba) (H:i≠g) (G:i≠ba) (q:g≠ba) (F:B aO=none) (o:aO≠g) (n:aO≠ba):
 AS.le ((((B.set ba d).set g c).set i b).set l a) (((((((B.set ba d0).set g c0).set aO e).set l a).set g c).set ba d).set i b):=by
 intro j x h;simp only[AS.set]at h⊢;by_cases E:j=l
 ·subst E;simp[*]at h⊢;exact h
 by_cases y:j=i
 ·subst y;simp[*]at h⊢;exact h
 by_cases w:j=g
 ·subst w;simp[*]at h⊢;exact h
 by_cases v:j=ba
 ·subst v;simp[*,Ne.symm q]at h⊢;exact h
 by_cases u:j=aO
 ·subst u;simp[*]at h
 simp[*]at h⊢;exact h
def Kj {B:AS}{l i g ba aO:Nat}{a b b0 c d c0 d0 e:bP}(h1:l≠i) (J:l≠g) (I:l≠ba) (H:i≠g) (G:i≠ba) (q:g≠ba) (F:B aO=none) (o:aO≠g) (n:aO≠ba):
 AS.le ((((B.set ba d).set g c).set i b).set l a) ((((((((B.set ba d0).set g c0).set i b0).set aO e).set l a).set g c).set ba d).set i b):=by
 intro j x h;simp only[AS.set]at h⊢;by_cases E:j=l
 ·subst E;simp[*]at h⊢;exact h
 by_cases y:j=i
 ·subst y;simp[*]at h⊢;exact h
 by_cases w:j=g
 ·subst w;simp[*]at h⊢;exact h
 by_cases v:j=ba
 ·subst v;simp[*,Ne.symm q]at h⊢;exact h
 by_cases u:j=aO
 ·subst u;simp[*]at h
 simp[*]at h⊢;exact h
def uX (d:List (zY×Nat)) (o:cC):AV:= .ao 3 (d.map fun p=>zI p.2) o false
def X0 (l:List (zY)) (nl:Bool) (u:cC) (B:AS) (g ba:Nat) (m:Nat) (fr:Fr) (q:AS):Prop:=
 ∃(i:Nat) (p:zY) (d:List (zY×Nat)) (o:cC) (h:List (ByteArray×AV)) (n:AS) (pl:AV),m=l.length-i∧i≤l.length∧tD (l.drop i) p d=tD l [0] []∧d.length=i∧p.length≤1+25*i∧
  (∀s:zY,iq ⟨s.toArray⟩ h=(gN s d).map (fun a=>zI (a:Int)))∧
  ((i=0∧pl= .ai∧n=(B.set ba (.map (eA h))).set g (fL p o ba))∨(∃j,0<i∧B j=none∧j≠g∧j≠ba∧pl=uX d (.tok j)∧n=((B.set ba (.map (eA h))).set g (fL p o ba)).set j (.tok i)))∧
  PS o p.length n q∧fr=iO [(5,.ptr g 0),(6,pl),(12,.ao 9 (l.map sV) u nl),(13,zI l.length),(14,zI i)]
theorem J3 (l:List (zY)) (nl:Bool) (X:cC) (hl:l.length≤1000) (hs:∀s∈l,s.length≤140737488355328) (hf:l.all bD=true) (hn:¬65536<(tD l [0] []).1.length) (σ:AS):
 ad prog 29 [.ao 9 (l.map sV) X nl] σ (ah (.bI [.ao 5 ((tD l [0] []).1.map u8) .aI false,.ao 3 ((tD l [0] []).2.map fun p=>zI p.2) .aI (decide (l= [])),zI 0]) σ) No:=by
 have hc:=fun σ=>C5 l nl X (by omega) hs σ;rw[hf]at hc;refine ad.ob func29 ?_;refine gO aa tI @hc ?_;refine ag.of (CJ _) ?_ (fun _ _ h=>h.elim);rintro r σ1 ⟨g,ba,b3,L,I,rfl,rfl⟩;simp-implicitDefEqProofs;refine gO aa tI tI ?_;refine aq.dc (X0 l nl X σ g ba) (k0:=l.length) ⟨0,[0],[],.full,[],_,_,by omega,by omega,rfl,rfl,by simp,fun s=>rfl,.inl ⟨rfl,rfl,rfl⟩,.inl ⟨rfl,rfl⟩,rfl⟩ (aN.mk (by simp)) (lR _) ?_;rintro m fr σ' ⟨i,p,d,o,v,Y,pl,hm,hi,G,hd,hp,hk,hC,V,rfl⟩;have M:ba≠g:=fun e=>I e.symm;have F:Y g=some (fL p o ba)∧Y ba=some (.map (eA v)):=by
  rcases hC with⟨_,_,rfl⟩|⟨n,_,ht,K,J,_,rfl⟩
  ·simp[M]
  ·simp[M,K.symm,J.symm]
 have hle:=V.le;have P:=hle _ _ F.1;have af:=hle _ _ F.2;by_cases ar:i<l.length
 ·obtain⟨s,hg,T,ap,_⟩:=gQ l ar;obtain⟨_,a9⟩:=List.getElem?_eq_some_iff.1 hg;have hI:((i:Int)<l.length)=True:=by simp;omega
  have b1:s.length≤24:=by have:=List.all_eq_true.1 hf s ap;simp[bD]at this;exact this.2.1
  rw[T]at G;simp only[tD]at G;refine gO aa (j4 hI ar @a9 @sV.eq_1) tI ?_;intro aO y;have s1:aO≠g:=nq P y;have s2:aO≠ba:=nq af y;have ac:g≠aO:=fun e=>s1 e.symm;have ab:ba≠aO:=fun e=>s2 e.symm;refine gO aa tI tI ?_;have O:=V.put (b:= .cells 9 [sV s]) (.inl y);cases j:gN s d with
  |some a=>
   rw[j]at G;rcases hC with⟨h0,_,_⟩|⟨n,a0,Q,K,J,rfl,rfl⟩
   ·exfalso;have:d= []:=List.length_eq_zero_iff.1 (by omega);subst this;simp[gN]at j
   ·have ht:σ' n=some (.tok i):=hle n _ (by simp[AS.set]);have s3:aO≠n:=nq ht y;have a6:n≠aO:=fun e=>s3 e.symm;refine ag.ay (FI g ba p s o v a _ _ (by simp[ac,P]) (by simp[ab,af]) (by rw[hk,j];rfl)) ?_;simp-implicitDefEqProofs [uX,ht,hd,a6];refine⟨by omega,?_⟩;refine gO aa tI tI ?_;refine⟨m-1,_,σ'.set n (.tok (i+1)),by omega,aN.mk (l:= [(5,.ptr g 0),(6,uX (d++ [(s,a)]) (.tok n)),(12,.ao 9 (l.map sV) X nl),(13,zI l.length),(14,zI (i+1:Nat))]) ?_,?_,i+1,p,d++ [(s,a)],o,v,_,_,by omega,by omega,G,by simp[hd],by omega,?_,.inr ⟨n,by omega,Q,K,J,rfl,rfl⟩,?_,rfl⟩
    ·simp[gW (show i<4000000000000000000 by omega),uX]
    ·exact jf (an y (lR _)) (by simp)
    ·intro H;rw[hk,qx];by_cases e:H=s
     ·subst e;rw[j]
     ·cases h:gN H d<;>simp[e]
    ·have:=V.put (i:=n) (b:= .tok (i+1)) (.inr ⟨_,by simp[AS.set];rfl⟩);rwa [AS.set_set]at this
  |none=>
   rw[j]at G;have a7:=FH g ba p (p++s++ [0]) s o v 70 [.ptr aO 0] (Y.set aO (.cells 9 [sV s])) _ I (by simp[ac,F.1]) (by simp[ab,F.2]) O (by rw[hk,j];rfl) (by omega)
    (Hs p s o aO _ _ O (by simp) (by omega) (by omega))
   have av:∀H:zY,iq ⟨H.toArray⟩ (kJ ⟨s.toArray⟩ (zI p.length) v)=(gN H (d++ [(s,p.length)])).map (fun a=>zI (a:Int)):=by
    intro H;rw[zh,qx];by_cases e:H=s
    ·subst e;rw[j];simp
    ·have:¬((⟨H.toArray⟩:ByteArray)=⟨s.toArray⟩):=by simpa using e
     rw[if_neg this,hk];cases h:gN H d<;>simp[e]
   refine ag.of a7 ?_ (fun _ _ h=>h.elim);rintro r σ2 ⟨u,al,rfl,rfl⟩;have t1:u≠aO:=by rintro rfl;simp[AS.set]at al
   have cb:aO≠u:=fun e=>t1 e.symm;have w:Y u=none:=by simpa[AS.set,t1]using al
   have t2:u≠g:=by rintro rfl;rw[F.1]at w;cases w
   have t3:u≠ba:=by rintro rfl;rw[F.2]at w;cases w
   have ca:g≠u:=fun e=>t2 e.symm;have b6:ba≠u:=fun e=>t3 e.symm;have q:Y aO=none:=by
    cases hh:Y aO with
    |none=>rfl
    |some x=>rw[hle _ _ hh]at y;cases y
   rcases hC with⟨h0,rfl,rfl⟩|⟨n,a0,Q,K,J,rfl,rfl⟩
   ·have E:σ aO=none:=by simpa[AS.set,s1,s2]using q
    have a2:σ u=none:=by simpa[AS.set,t2,t3]using w
    have bb:d= []:=List.length_eq_zero_iff.1 (by omega);subst bb;simp-implicitDefEqProofs;intro n;intros;have u1:n≠ba:=by assumption
    have u2:n≠g:=by assumption
    have u3:n≠u:=by assumption
    have u5:σ n=none:=by assumption
    have a4:u≠n:=fun e=>u3 e.symm;refine gO aa tI tI ?_;refine⟨m-1,_,((((σ.set ba (.map (eA (kJ ⟨s.toArray⟩ (zI p.length) v)))).set g (fL (p++s++ [0]) (.tok u) ba)).set n (.tok (i+1))).set u (.tok (p++s++ [0]).length)),by omega,aN.mk (l:= [(5,.ptr g 0),(6,uX ([]++ [(s,p.length)]) (.tok n)),(12,.ao 9 (l.map sV) X nl),(13,zI l.length),(14,zI (i+1:Nat))]) ?_,?_,i+1,p++s++ [0],[]++ [(s,p.length)],.tok u,_,_,_,by omega,by omega,G,by simp[hd,h0],by simp;omega,av,.inr ⟨n,by omega,u5,u2,u1,rfl,rfl⟩,.inr ⟨u,rfl,by simp[AS.set, *],rfl⟩,rfl⟩
    ·simp[gW (show i<4000000000000000000 by omega),uX]
    ·have:=Kk (B:=σ) (a:= .tok (p++s++ [0]).length) (b:= .tok (i+1)) (c:=fL (p++s++ [0]) (.tok u) ba) (d:= .map (eA (kJ ⟨s.toArray⟩ (zI p.length) v))) (c0:=fL p o ba) (d0:= .map (eA v)) (e:= .cells 9 [sV s]) a4 t2 t3 u2 u1 I E s1 s2;simpa[h0]using this
   ·have E:σ aO=none:=by
     have am:aO≠n:=by rintro rfl;simp[AS.set]at q
     simpa[AS.set,s1,s2,am]using q
    have t4:u≠n:=by rintro rfl;simp[AS.set]at w
    have a5:n≠u:=fun e=>t4 e.symm;have a2:σ u=none:=by simpa[AS.set,t2,t3,t4]using w
    have s3:n≠aO:=by rintro rfl;simp[AS.set]at q
    simp-implicitDefEqProofs [uX,K,J,a5,s3,hd];refine⟨by omega,?_⟩;refine gO aa tI tI ?_;refine⟨m-1,_,((((σ.set ba (.map (eA (kJ ⟨s.toArray⟩ (zI p.length) v)))).set g (fL (p++s++ [0]) (.tok u) ba)).set n (.tok (i+1))).set u (.tok (p++s++ [0]).length)),by omega,aN.mk (l:= [(5,.ptr g 0),(6,uX (d++ [(s,p.length)]) (.tok n)),(12,.ao 9 (l.map sV) X nl),(13,zI l.length),(14,zI (i+1:Nat))]) ?_,?_,i+1,p++s++ [0],d++ [(s,p.length)],.tok u,_,_,_,by omega,by omega,G,by simp[hd],by simp;omega,av,.inr ⟨n,by omega,Q,K,J,rfl,rfl⟩,.inr ⟨u,rfl,by simp[AS.set, *],rfl⟩,rfl⟩
    ·simp[gW (show i<4000000000000000000 by omega),uX]
    ·have:=Kj (B:=σ) (a:= .tok (p++s++ [0]).length) (b:= .tok (i+1)) (b0:= .tok i) (c:=fL (p++s++ [0]) (.tok u) ba) (d:= .map (eA (kJ ⟨s.toArray⟩ (zI p.length) v))) (c0:=fL p o ba) (d0:= .map (eA v)) (e:= .cells 9 [sV s]) t4 t2 t3 K J I E s1 s2;simpa[hd]using this
 ·have hI:((i:Int)<l.length)=False:=by simp;omega
  have T:l.drop i= []:=List.drop_eq_nil_of_le (by omega);rw[T]at G;simp only[tD]at G;rw[←G]at hn⊢;simp only at hn⊢;repeat (first
   |refine g1 ?_
   |((first|refine g2 ?_ |((with_reducible apply ag.id);first|apply ag.ay (C3 g ba p o _ _ P (by omega) hn)));simp-implicitDefEqProofs [hI])
   |(refine g3 ?_;try simp-implicitDefEqProofs))
  refine⟨ju (by simp) ?_ (by simp),AS.le_trans ?_ hle⟩
  ·rcases hC with⟨h0,rfl,_⟩|⟨n,a0,_,_,_,rfl,_⟩
   ·have h1:d= []:=List.length_eq_zero_iff.1 (by omega);have h2:l= []:=List.length_eq_zero_iff.1 (by omega);subst h1 h2;simp
   ·have h2:decide (l= [])=false:=by
     have:l≠ []:=by rintro rfl;simp at hi;omega
     simp[this]
    rw[h2];simp[uX]
  ·rcases hC with⟨_,_,rfl⟩|⟨n,_,ht,K,J,_,rfl⟩
   ·exact an (by simp[*]) (an L (lR _))
   ·exact an (by simp[*]) (an (by simp[*]) (an L (lR _)))
def Ec (l:List (zY)) (nl:Bool) (d:cC) (hl:l.length≤1000) (h:∀s∈l,s.length≤140737488355328) (hf:l.all bD=false) (σ:AS):
 ad prog 29 [.ao 9 (l.map sV) d nl] σ (ah (.bI [.ai,.ai,zI 18]) σ) No:=by
 have g:=fun σ=>C5 l nl d (by omega) h σ;rw[hf]at g;refine ad.ob func29 ?_;exact gE aa tI @g
def mc (S:List Nat):bH prog [(6,(.S 0 (.S 1 (.S 2 (.S 4 (.S 5 (.S 6 (.R 3 (.R 7 (.S 8 .D))))))))))] S:=mixed
def XK (l m:List Int) (h g:cC) (n1 n2:Bool) (σ:AS) (k:Nat) (fr:Fr) (d:AS):Prop:=
 ∃i:Nat,k=l.length-i∧i≤l.length∧decide (l=m)=decide (l.drop i=m.drop i)∧d=σ∧
  fr=iO [(0,.ao 3 (l.map aS) h n1),(1,.ao 3 (m.map aS) g n2),(5,zI i)]
theorem I6 (l m:List Int) (G F:cC) (n1 n2:Bool) (hl:l.length≤140737488355328) (hm:m.length≤140737488355328) (σ:AS):
 ad prog 41 [.ao 3 (l.map aS) G n1,.ao 3 (m.map aS) F n2] σ (ah (.sc (.bool (decide (l=m)))) σ) No:=by
 refine ad.ob func41 ?_;by_cases hlen:l.length=m.length
 ·have d:(l.length:Int)=m.length:=by omega
  refine gO mc (j2 @hlen @d) tI ?_;refine aq.dc (XK l m G F n1 n2 σ) (k0:=l.length) ⟨0,by omega,by omega,rfl,rfl,rfl⟩ (aN.mk (by simp)) (lR _) ?_;rintro k fr L ⟨i,M,O,u,rfl,rfl⟩;by_cases h:i<l.length
  ·obtain⟨r,I,E,_,_⟩:=gQ l h;obtain⟨q,H,y,_,_⟩:=gQ m (i:=i) (by omega);obtain⟨_,o⟩:=List.getElem?_eq_some_iff.1 I;obtain⟨g,n⟩:=List.getElem?_eq_some_iff.1 H;have v:((i:Int)<l.length)=True:=by simp;omega
   have j:((i:Int)<m.length)=True:=by simp;omega
   rw[E,y]at u;by_cases he:r=q
   ·subst he;refine gO mc (j7 v @j h @g @o @n @aF) tI ?_;refine⟨k-1,_,_,by omega,aN.mk ?_,lR _,i+1,by omega,by omega,by rw[u];simp,rfl,rfl⟩;simp[gW (show i<4000000000000000000 by omega)]
   ·refine gO mc (j8 v @j h @g @o @n @aF @he) tI ?_;simp[u,he]
  ·have v:((i:Int)<l.length)=False:=by simp;omega
   have j:((i:Int)<m.length)=False:=by simp;omega
   have K:l.drop i= []:=List.drop_eq_nil_of_le (by omega);have J:m.drop i= []:=List.drop_eq_nil_of_le (by omega);rw[K,J]at u;refine gO mc v tI ?_;simp[u]
 ·have d:¬(l.length:Int)=m.length:=by omega
  have w:¬l=m:=fun e=>hlen (by rw[e]);refine gO mc (j2 @hlen @d) tI ?_;simp[w]
def F3:∀(l:List (zY)) (p:zY) (d:List (zY×Nat)),l.all bD=true→(tD l p d).1.length≤p.length+25*l.length:=by
 intro l;induction l with
 |nil=>intro p d _;simp[tD]
 |cons s r g=>
  intro p d h;simp only[all_cons,Bool.and_eq_true]at h;have i:s.length≤24:=by have:=h.1;simp[bD]at this;exact this.2.1
  simp only[tD];split
  ·rename_i a _;have:=g p (d++ [(s,a)]) h.2;simp at this⊢;omega
  ·have:=g (p++s++ [0]) (d++ [(s,p.length)]) h.2;simp at this⊢;omega
def Hq (l:List (zY)) (hl:l.length≤1000) (hf:l.all bD=true):bJ l=((tD l [0] []).1,(tD l [0] []).2.map (fun p=>(p.2:Int)),0):=by have:=F3 l [0] [] hf;unfold bJ;rw[if_neg (by simp[hf]),if_neg (by simp at this⊢;omega)]
def Ed (l:List (zY)) (hf:l.all bD=false):bJ l=([],[],18):=by unfold bJ;rw[if_pos hf]
def Hp (l:List (zY)) (nl:Bool) (d:cC) (hl:l.length≤1000) (g:∀s∈l,s.length≤140737488355328) (σ:AS):
 ad prog 29 [.ao 9 (l.map sV) d nl] σ (ah (.bI [.ao 5 ((bJ l).1.map u8) .aI (!l.all bD),.ao 3 ((bJ l).2.1.map aS) .aI (!l.all bD||decide (l= [])),zI ((bJ l).2.2)]) σ) No:=by
 cases hf:l.all bD with
 |true=>
  rw[Hq l hl hf];have:=F3 l [0] [] hf;have h:=J3 l nl d hl g hf (by simp at this;omega) σ;have e:(tD l [0] []).2.map (fun p=>(AV.sc (.int .i64 (p.2:Int))))=((tD l [0] []).2.map (fun p=>(p.2:Int))).map aS:=by simp[aF]
  rw[e]at h;simpa using h
 |false=>rw[Ed l hf];exact(Ec l nl d hl g hf σ).told (ju (by simp) (by simp) (by simp))
def sS (b:zY) (x k e:Int) (h:pw b=(x,k,e)):0≤e∧e≤2∧(e=0→1≤k∧k≤4∧k≤b.length∧0≤x∧x≤536870911):=by
 unfold pw at h;split at h
 ·cases h;simp
 ·rename_i c r;simp only at h;split at h
  ·cases h;simp
  ·rename_i h0;split at h
   ·cases h;simp
   ·rename_i h1;split at h
    ·rename_i l;simp only[Prod.mk.injEq]at h;obtain⟨rfl,rfl,rfl⟩:=h;refine⟨by omega,by omega,fun _ => ?_⟩;have g:bt c.toNat=1∨bt c.toNat=2∨bt c.toNat=4:=by
      unfold bt at h0⊢;split
      ·simp
      ·split
       ·simp
       ·split
        ·simp
        ·rename_i a b d;simp[a,b,d]at h0
     have hm:0<fh (bt c.toNat)+1∧fh (bt c.toNat)+1≤536870912:=by rcases g with h|h|h<;>rw[h]<;>simp[fh]
     have i:=Int.emod_nonneg (mu ((c::r).take (bt c.toNat).toNat)) (show fh (bt c.toNat)+1≠0 by omega);have j:=Int.emod_lt_of_pos (mu ((c::r).take (bt c.toNat).toNat)) hm.1;refine⟨?_,?_,?_,i,by omega⟩
     ·rcases g with h|h|h<;>omega
     ·rcases g with h|h|h<;>omega
     ·omega
    ·cases h;simp
def jr (b:zY) (at':Int):zY×Int:=
 if at'<0∨b.length≤at' then([],3)else
 if (pw (b.drop at'.toNat)).2.2≠0 then([],(pw (b.drop at'.toNat)).2.2)else
 if (b.length:Int)-at'-(pw (b.drop at'.toNat)).2.1<(pw (b.drop at'.toNat)).1 then([],1)else
 (((b.drop at'.toNat).take ((pw (b.drop at'.toNat)).2.1+(pw (b.drop at'.toNat)).1).toNat).drop (pw (b.drop at'.toNat)).2.1.toNat,0)
def NV (b:zY) (nl:Bool) (o:cC) (at':Int) (E:nl=true→b= []) (hl:b.length≤140737488355328) (σ:AS):
 ad prog 204 [.ao 5 (b.map u8) o nl,zI at'] σ (ah (.bI [.ao 5 ((jr b at').1.map u8) .aI (decide ((jr b at').2≠0)),zI ((jr b at').2)]) σ) No:=by
 refine ad.ob func204 ?_;by_cases u:at'<0
 ·have n:jr b at'=([],3):=by simp[jr,u]
  rw[n];exact gE aa @u tI;try exact cq (by simp) (by simp)
 ·by_cases q:b.length≤at'
  ·have n:jr b at'=([],3):=by simp[jr,q]
   rw[n];exact gE aa (j2 @u @q) tI;try exact cq (by simp) (by simp)
  ·have v:nl=false:=by
    cases nl with
    |false=>rfl
    |true=>have:=E rfl;subst this;simp at q;omega
   subst v;have h0:0≤at':=by omega
   have h1:at'.toNat≤b.length:=by omega
   have F:(b.map u8).take b.length=b.map u8:=take_of_length_le (by simp);obtain⟨⟨x,k,e⟩,hu⟩:∃t,pw (b.drop at'.toNat)=t:=⟨_,rfl⟩;obtain⟨f1,f2,f3⟩:=sS _ _ _ _ hu;have n:jr b at'=if e≠0 then([],e)else if (b.length:Int)-at'-k<x then([],1)else(((b.drop at'.toNat).take (k+x).toNat).drop k.toNat,0):=by simp[jr,u,q,hu]
   rw[n];have w:((b.drop at'.toNat).length:Int)=b.length-at':=by simp;omega
   have j:=fun o σ=>oB (b.drop at'.toNat) o false (by simp) (by simp;omega) σ;have d:=fun id σ h=>yZ id (b.drop at'.toNat) 0 false σ (by simp) h (by omega) (by omega) (by simp;omega) x k e (by simpa using hu);simp only[map_drop]at j;refine gO aa (j5 @u @q @h0 @h1 @F) tI ?_;refine ag.of (j _ _) ?_ (fun _ _ h=>h.elim);rintro r I ⟨id,l,rfl,rfl⟩;generalize b.drop at'.toNat=L at d w n f3⊢;simp-implicitDefEqProofs;by_cases he:e=0
   ·subst he;obtain⟨k1,k4,O,K,J⟩:=f3 rfl;simp only[if_true,Int.zero_add]at d;by_cases y:(b.length:Int)-at'-k<x
    ·have g:=fun σ h=>BF id L k x false σ h (by omega) (by omega) (by omega) (by simp[oV];split<;>(try split)<;>omega);have G:oV L k x=1:=by unfold oV;rw[if_neg (by omega),if_pos (by omega)]
     simp only[G]at g;refine gO aa tI (j2 (d id) @g) ?_;try simp[y]
     exact an l (lR _)
    ·have g:=fun σ h=>zP id L k x false σ (by simp) h (by omega) (by omega) (by omega) (by omega) (by omega);refine gO aa tI (d id) ?_;refine ag.of (g _ (by simp)) ?_ (fun _ _ h=>h.elim);rintro r H ⟨M,i,rfl,rfl⟩;simp-implicitDefEqProofs;refine gO aa tI tI ?_;simp[y,cu];simp at i;exact an (by simp[i]) (an l (lR _))
   ·refine gO aa @he (d id) ?_;exact an l (lR _)
def bV (x:zY×Bool):AV:= .ao 5 (x.1.map u8) .aI x.2
def lp (s:zY):zY:=bh s.length++s
def gr (n:Int) (h0:0≤n) (h1:n≤536870911):1≤(bh n).length∧(bh n).length≤4:=by unfold bh;rw[jX];rcases fg n h0 h1 with⟨_,h⟩|⟨_,_,h⟩|⟨_,_,h⟩<;>rw[h]<;>decide
def H8 (d:zY) (x:zY×Bool) (o:cC) (aO:Nat) (i σ:AS) (u:PS o d.length i σ) (j:i aO=some (.cells 30 [bV x])) (h1:d.length≤1000000) (F:x.1.length≤1000):
 ad prog 72 [.ao 5 (d.map u8) o false,.ptr aO 0] σ (kQ (fun h=> .ao 5 ((d++lp x.1).map u8) (.tok h) false) (d++lp x.1).length i) No:=by
 have n:=u.le aO _ j;have l:=fun σ=>rW d o false (by simp) h1 x.1.length (by omega) (by omega) σ;have q:=gr x.1.length (by omega) (by omega);generalize w:bh x.1.length=P at l q;have E:lp x.1=P++x.1:=by rw[lp,w]
 rw[E];refine ad.ob func72 ?_;refine gO aa (j2 @n @bV.eq_1) @l ?_;intro h g;have n1:¬aO=h:=nq n g;refine gO aa (j3 @n @bV.eq_1 @n1) tI ?_;have h0:i h=none:=by
  cases v:i h with
  |none=>rfl
  |some y=>rw[u.le _ _ v]at g;cases g
 refine da h h0 (ff (by first|rfl|simp)) ?_;exact jf u.le (by first|omega|(simp;omega))
def uj:List (zY)→zY→List (zY×Nat)→zY×List (zY×Nat)
 |[],p,d=>(p,d)
 |s::r,p,d=>match gN s (([],0)::d)with
  |some a=>uj r p (d++ [(s,a)])
  |none=>uj r (p++lp s) (d++ [(s,p.length)])
def xM:∀(r:List (zY)) (p:zY) (d:List (zY×Nat)),p.length≤(uj r p d).1.length
 |[],p,d=>Nat.le_refl _
 |s::r,p,d=>by
  simp only[uj];split
  ·exact xM r p _
  ·have:=xM r (p++lp s) (d++ [(s,p.length)]);rw[length_append]at this;omega
def A1:∀(l:List (zY)) (p:zY) (d:List (zY×Nat)),(uj l p d).2.length=d.length+l.length
 |[],p,d=>rfl
 |s::r,p,d=>by
  simp only[uj];split
  ·rw[A1];simp;omega
  ·rw[A1];simp;omega
def Ap:∀(l:List (zY)) (p:zY) (d:List (zY×Nat)),(tD l p d).2.length=d.length+l.length
 |[],p,d=>rfl
 |s::r,p,d=>by
  simp only[tD];split
  ·rw[Ap];simp;omega
  ·rw[Ap];simp;omega
def bU (l:List (zY)):zY×List Int×Int:=
 if 65536<(uj l [0] []).1.length then([],[],4)else((uj l [0] []).1,(uj l [0] []).2.map (fun p=>(p.2:Int)),0)
def QL (l:List (zY)):AV:= .bI [.ao 5 ((bU l).1.map u8) .aI (decide (65536<(uj l [0] []).1.length)),.ao 3 ((bU l).2.1.map aS) .aI (decide (65536<(uj l [0] []).1.length∨l= [])),zI ((bU l).2.2)]
def Dc {l:List (zY)}(h:65536<(uj l [0] []).1.length):AV.Wk prog (.bI [.ai,.ai,zI 4]) (QL l):=by unfold QL bU;rw[if_pos h];exact ju (by simp[h]) (by simp[h]) (by simp)
def Wm (l:List (zY×Bool)) (nl:Bool) (u:cC) (B:AS) (g ba:Nat) (m:Nat) (fr:Fr) (q:AS):Prop:=
 ∃(i:Nat) (p:zY) (d:List (zY×Nat)) (o:cC) (h:List (ByteArray×AV)) (n:AS) (pl:AV),m=l.length-i∧i≤l.length∧uj ((l.drop i).map (·.1)) p d=uj (l.map (·.1)) [0] []∧d.length=i∧p.length≤65536∧
  (∀s:zY,iq ⟨s.toArray⟩ h=(gN s (([],0)::d)).map (fun a=>zI (a:Int)))∧
  ((i=0∧pl= .ai∧n=(B.set ba (.map (eA h))).set g (fL p o ba))∨(∃j,0<i∧B j=none∧j≠g∧j≠ba∧pl=uX d (.tok j)∧n=((B.set ba (.map (eA h))).set g (fL p o ba)).set j (.tok i)))∧
  PS o p.length n q∧fr=iO [(5,.ptr g 0),(6,pl),(14,.ao 30 (l.map bV) u nl),(15,zI l.length),(16,zI i)]
theorem H6 (l:List (zY×Bool)) (nl:Bool) (o0:cC) (hl:l.length≤100000) (hs:∀s∈l,s.1.length≤300) (σ:AS):
 ad prog 30 [.ao 30 (l.map bV) o0 nl] σ (ah (QL (l.map (·.1))) σ) No:=by
 refine ad.ob func30 ?_;refine gO (S:= [2]) aa tI tI ?_;refine ag.of (CJ _) ?_ (fun _ _ h=>h.elim);rintro r σ1 ⟨g,ba,d4,a3,v,rfl,rfl⟩;simp-implicitDefEqProofs;have Y:ba≠g:=fun e=>v e.symm;refine gO (S:= [2]) aa tI tI ?_
 with_reducible apply aq.eJ
 refine bq.first 4 ?_;simp-implicitDefEqProofs [fL,v,Y];refine bq.sp rfl (ia.mapUpdate ba ⟨[].toArray⟩ [] underlying129 underlying9 (by simp) (by simp) (by simp[AS.set,v,Y]) ?_);refine bq.rest ?_;simp-implicitDefEqProofs;refine gO aa tI tI ?_;refine aq.dc (Wm l nl o0 σ g ba) (k0:=l.length) ⟨0,[0],[],.full,kJ ⟨[].toArray⟩ (zI 0) [],_,_,by omega,by omega,rfl,rfl,by simp,?_,.inl ⟨rfl,rfl,rfl⟩,.inl ⟨rfl,rfl⟩,rfl⟩ (aN.mk (by simp)) ?_ ?_
 ·intro s;by_cases h:s= []<;>simp[kJ,iq,gN,h]<;>(intro e;exact h (by simpa using(congrArg ByteArray.data e:s.toArray= #[])))
 ·intro j x hx;by_cases a1:j=ba
  ·subst a1;simp[AS.set,fL,Y]at hx⊢;exact hx
  ·by_cases a2:j=g
   ·subst a2;simp[AS.set,fL,v]at hx⊢;exact hx
   ·simp[AS.set,a1,a2]at hx⊢;exact hx
 rintro m fr σ' ⟨i,p,d,o,F,C0,pl,hm,hi,P,hd,hp,hk,V,av,rfl⟩;have ab:ba≠g:=fun e=>v e.symm;have Q:C0 g=some (fL p o ba)∧C0 ba=some (.map (eA F)):=by
  rcases V with⟨_,_,rfl⟩|⟨n,_,ht,q1,q2,_,rfl⟩
  ·simp[v,ab]
  ·simp[v,ab,q1.symm,q2.symm]
 have hle:=av.le;have O:=hle _ _ Q.1;have b6:=hle _ _ Q.2;have bb:∀q:zY,q.length≤65536→(65536<(q.length:Int))=False:=by intro q h1;simp;omega
 by_cases cd:i<l.length
 ·obtain⟨x,hg,a7,cc,_⟩:=gQ l cd;obtain⟨s,sn⟩:=x;obtain⟨_,dl⟩:=List.getElem?_eq_some_iff.1 hg;have hI:((i:Int)<l.length)=True:=by simp;omega
  have ek:s.length≤300:=hs _ cc;have c8:(65536<(s.length:Int))=False:=by simp;omega
  have ej:s.length≤140737488355328:=by omega
  rw[a7,List.map_cons]at P;simp only[uj]at P;refine gO aa (j4 hI cd @dl @bV.eq_1) tI ?_;intro aO E;have s1:aO≠g:=nq O E;have s2:aO≠ba:=nq b6 E;have al:g≠aO:=fun e=>s1 e.symm;have b5:ba≠aO:=fun e=>s2 e.symm;refine gO aa (j2 @c8 @qL) tI ?_;have a4:=av.put (b:= .cells 30 [bV (s,sn)]) (.inl E);have M:∀(a n:Nat),gN s (([],0)::d)=some a→uj ((l.drop (i+1)).map (·.1)) p (d++ [(s,a)])=uj (l.map (·.1)) [0] []→σ n=none→n≠g→n≠ba→PS o p.length (((σ.set ba (.map (eA F))).set g (fL p o ba)).set n (.tok (i+1))) (σ'.set n (.tok (i+1)))→
   ∀(fr:Fr) (σf:AS),aN prog fr (iO [(5,.ptr g 0),(6,uX (d++ [(s,a)]) (.tok n)),(14,.ao 30 (l.map bV) o0 nl),(15,zI l.length),(16,zI (i+1:Nat))])→AS.le (σ'.set n (.tok (i+1))) σf→Kd prog (Wm l nl o0 σ g ba) m fr σf:=by
   intro a n u bc h1 h2 h3 h4 fr σf h5 h6;refine⟨m-1,_,_,by clear V;omega,h5,h6,i+1,p,d++ [(s,a)],o,F,_,_,by clear V;omega,by clear V;omega,bc,by simp[hd],by clear V;omega,?_,.inr ⟨n,by omega,h1,h2,h3,rfl,rfl⟩,h4,rfl⟩;intro s';rw[hk,←List.cons_append,qx];by_cases e:s'=s
   ·subst e;rw[u]
   ·cases h:gN s' (([],0)::d)<;>simp[e]
  have J:∀(w n:Nat),gN s (([],0)::d)=none→uj ((l.drop (i+1)).map (·.1)) (p++lp s) (d++ [(s,p.length)])=uj (l.map (·.1)) [0] []→σ n=none→n≠g→n≠ba→σ w=none→w≠n→w≠g→w≠ba→(p++lp s).length≤65536→
   ∀(fr:Fr) (σf:AS),aN prog fr (iO [(5,.ptr g 0),(6,uX (d++ [(s,p.length)]) (.tok n)),(14,.ao 30 (l.map bV) o0 nl),(15,zI l.length),(16,zI (i+1:Nat))])→
    AS.le ((((σ.set ba (.map (eA (kJ ⟨s.toArray⟩ (zI p.length) F)))).set g (fL (p++lp s) (.tok w) ba)).set n (.tok (i+1))).set w (.tok (p++lp s).length)) σf→Kd prog (Wm l nl o0 σ g ba) m fr σf:=by
   intro w n u bc h1 h2 h3 k1 k2 k3 k4 hlen fr σf h5 h6;refine⟨m-1,_,_,by clear V;omega,h5,h6,i+1,p++lp s,d++ [(s,p.length)],.tok w,_,_,_,by clear V;omega,by clear V;omega,bc,by simp[hd],hlen,?_,.inr ⟨n,by omega,h1,h2,h3,rfl,rfl⟩,.inr ⟨w,rfl,by simp[AS.set, *],rfl⟩,rfl⟩;intro s';rw[zh,←List.cons_append,qx];by_cases e:s'=s
   ·subst e;rw[u];simp
   ·have:¬((⟨s'.toArray⟩:ByteArray)=⟨s.toArray⟩):=by simpa using e
    rw[if_neg this,hk];cases h:gN s' (([],0)::d)<;>simp[e]
  cases u:gN s (([],0)::d)with
  |some a=>
   rw[u]at P;refine ag.ay (FI g ba p s o F a _ _ (by simp[al,O]) (by simp[b5,b6]) (by rw[hk,u];rfl)) ?_;have I:=bb p hp;have a0:p.length≤140737488355328:=by omega
   simp only[fL]at O;rcases V with⟨h0,rfl,rfl⟩|⟨n,ce,a6,q1,q2,rfl,rfl⟩
   ·have a8:d= []:=List.length_eq_zero_iff.1 (by omega);subst a8;simp-implicitDefEqProofs;intro n;intros;have u4:σ' n=none:=by assumption
    have u5:n≠aO:=by assumption
    have d8:aO≠n:=fun e=>u5 e.symm;have u6:((σ.set ba (.map (eA F))).set g (fL p o ba)) n=none:=by
     cases hh:((σ.set ba (.map (eA F))).set g (fL p o ba)) n with
     |none=>rfl
     |some y=>rw[hle _ _ hh]at u4;cases u4
    have u7:n≠g:=by rintro rfl;simp at u6
    have u8:n≠ba:=by rintro rfl;simp[ab]at u6
    have u9:σ n=none:=by simpa[AS.set,u7,u8]using u6
    have cl:g≠n:=fun e=>u7 e.symm;refine gO aa (j4 @O @cl @al @I) tI ?_;have ar:=av.put (i:=n) (b:= .tok (i+1)) (.inl u4);refine M a n u P u9 u7 u8 ar _ _ (aN.mk ?_) ?_
    ·simp[gW (show i<4000000000000000000 by omega),uX,bV]
    ·exact jf (an E (lR _)) (by simp[h0])
   ·have ht:σ' n=some (.tok i):=hle n _ (by simp[AS.set]);have s3:aO≠n:=nq ht E;have c7:n≠aO:=fun e=>s3 e.symm;have ap:g≠n:=fun e=>q1 e.symm;simp-implicitDefEqProofs [uX,ht,hd,s3,c7];refine⟨by omega,?_⟩;refine gO aa (j4 @O @ap @al @I) tI ?_;have ar:=av.put (i:=n) (b:= .tok (i+1)) (.inr ⟨_,by simp[AS.set];rfl⟩);rw[AS.set_set]at ar;refine M a n u P a6 q1 q2 ar _ _ (aN.mk ?_) ?_
    ·simp[gW (show i<4000000000000000000 by omega),uX,bV]
    ·exact jf (an E (lR _)) (by simp[hd])
  |none=>
   rw[u]at P;have er:=gr s.length (by omega) (by omega);have ch:(p++lp s).length≤65536+304:=by simp[lp];omega
   have K:65536<(p++lp s).length→65536<(uj (l.map (·.1)) [0] []).1.length:=fun h=>by rw[←P];exact Nat.lt_of_lt_of_le h (xM _ _ _)
   have a0:(p++lp s).length≤140737488355328:=by omega
   have c9:=FH g ba p (p++lp s) s o F 72 [.ptr aO 0] (C0.set aO (.cells 30 [bV (s,sn)])) _ v (by simp[al,Q.1]) (by simp[b5,Q.2]) a4 (by rw[hk,u];rfl) (by omega)
    (H8 p (s,sn) o aO _ _ a4 (by simp) (by omega) (by simp;omega))
   refine ag.of c9 ?_ (fun _ _ h=>h.elim);generalize e0:p++lp s=T at a0 ch K J P;rintro r σ2 ⟨w,ca,rfl,rfl⟩;have t1:w≠aO:=by rintro rfl;simp[AS.set]at ca
   have eg:aO≠w:=fun e=>t1 e.symm;have H:C0 w=none:=by simpa[AS.set,t1]using ca
   have t2:w≠g:=by rintro rfl;rw[Q.1]at H;cases H
   have t3:w≠ba:=by rintro rfl;rw[Q.2]at H;cases H
   have ec:g≠w:=fun e=>t2 e.symm;have eb:ba≠w:=fun e=>t3 e.symm;have G:C0 aO=none:=by
    cases hh:C0 aO with
    |none=>rfl
    |some x=>rw[hle _ _ hh]at E;cases E
   rcases V with⟨h0,rfl,rfl⟩|⟨n,ce,a6,q1,q2,rfl,rfl⟩
   ·have L:σ aO=none:=by simpa[AS.set,s1,s2]using G
    have ac:σ w=none:=by simpa[AS.set,t2,t3]using H
    have a8:d= []:=List.length_eq_zero_iff.1 (by omega);subst a8;simp-implicitDefEqProofs;intro n;intros;have u1:n≠ba:=by assumption
    have u2:n≠g:=by assumption
    have u3:n≠w:=by assumption
    have u5:σ n=none:=by assumption
    have b2:w≠n:=fun e=>u3 e.symm;have b3:g≠n:=fun e=>u2 e.symm;have ea:ba≠n:=fun e=>u1 e.symm;by_cases a9:65536<T.length
    ·have I:(65536<(T.length:Int))=True:=eq_true (by omega);refine gO aa (j4 @fL.eq_1 @b3 @v @I) tI ?_;refine⟨Dc (K a9),?_⟩;repeat (first|exact lR _ |refine AS.aj ?_ (by assumption))
    have X:T.length≤65536:=by omega
    have I:=bb T X;refine gO aa (j4 @fL.eq_1 @b3 @v @I) tI ?_;refine J w n u P u5 u2 u1 ac b2 t2 t3 X _ _ (aN.mk ?_) ?_
    ·simp[gW (show i<4000000000000000000 by omega),uX,bV]
    ·have:=Kk (B:=σ) (a:= .tok T.length) (b:= .tok (i+1)) (c:=fL T (.tok w) ba) (d:= .map (eA (kJ ⟨s.toArray⟩ (zI p.length) F))) (c0:=fL p o ba) (d0:= .map (eA F)) (e:= .cells 30 [bV (s,sn)]) b2 t2 t3 u2 u1 v L s1 s2;simpa[h0,fL,bV]using this
   ·have L:σ aO=none:=by
     have cb:aO≠n:=by rintro rfl;simp[AS.set]at G
     simpa[AS.set,s1,s2,cb]using G
    have t4:w≠n:=by rintro rfl;simp[AS.set]at H
    have c6:n≠w:=fun e=>t4 e.symm;have ac:σ w=none:=by simpa[AS.set,t2,t3,t4]using H
    have s3:n≠aO:=by rintro rfl;simp[AS.set]at G
    have ap:g≠n:=fun e=>q1 e.symm;have ei:ba≠n:=fun e=>q2 e.symm;simp-implicitDefEqProofs [uX,q1,q2,c6,s3,hd];refine⟨by omega,?_⟩;by_cases a9:65536<T.length
    ·have I:(65536<(T.length:Int))=True:=eq_true (by omega);refine gO aa (j4 @fL.eq_1 @ap @v @I) tI ?_;refine⟨Dc (K a9),?_⟩;repeat (first|exact lR _ |refine AS.aj ?_ (by assumption))
    have X:T.length≤65536:=by omega
    have I:=bb T X;refine gO aa (j4 @fL.eq_1 @ap @v @I) tI ?_;refine J w n u P a6 q1 q2 ac t4 t2 t3 X _ _ (aN.mk ?_) ?_
    ·simp[gW (show i<4000000000000000000 by omega),uX,bV]
    ·have:=Kj (B:=σ) (a:= .tok T.length) (b:= .tok (i+1)) (b0:= .tok i) (c:=fL T (.tok w) ba) (d:= .map (eA (kJ ⟨s.toArray⟩ (zI p.length) F))) (c0:=fL p o ba) (d0:= .map (eA F)) (e:= .cells 30 [bV (s,sn)]) t4 t2 t3 q1 q2 v L s1 s2;simpa[hd,fL,bV]using this
 ·have hI:((i:Int)<l.length)=False:=by simp;omega
  have a7:l.drop i= []:=List.drop_eq_nil_of_le (by omega);rw[a7]at P;simp only[List.map_nil,uj]at P;have db:¬65536<p.length:=by omega
  have hE:QL (l.map (·.1))= .bI [.ao 5 (p.map u8) .aI false,.ao 3 (d.map fun q=>zI q.2) .aI (decide (l= [])),zI 0]:=by unfold QL bU;rw[←P];simp[db,aF,Function.comp_def]
  rw[hE];repeat (first
   |refine g1 ?_
   |((first|refine g2 ?_ |((with_reducible apply ag.id);first|apply ag.ay (C3 g ba p o _ _ O (by omega) (by omega))));simp-implicitDefEqProofs [hI])
   |(refine g3 ?_;try simp-implicitDefEqProofs [hI]))
  refine⟨ju (by simp) ?_ (by simp),AS.le_trans ?_ hle⟩
  ·rcases V with⟨h0,rfl,_⟩|⟨n,ce,_,_,_,rfl,_⟩
   ·have h1:d= []:=List.length_eq_zero_iff.1 (by omega);have h2:l= []:=List.length_eq_zero_iff.1 (by omega);subst h1 h2;simp
   ·have h2:decide (l= [])=false:=by
     have:l≠ []:=by rintro rfl;simp at hi;omega
     simp[this]
    rw[h2];simp[uX]
  ·rcases V with⟨_,_,rfl⟩|⟨n,_,ht,q1,q2,_,rfl⟩
   ·exact an (by simp[*]) (an a3 (lR _))
   ·exact an (by simp[*]) (an (by simp[*]) (an a3 (lR _)))
end Pl
end Go.Proofs.YtknalmoackcpbaaGreat
