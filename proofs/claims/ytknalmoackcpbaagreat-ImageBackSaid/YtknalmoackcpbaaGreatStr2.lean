/- Chapter 03: an image is parted, by the program. -/
import Derived.Test.YtknalmoackcpbaaGreatSigL
set_option maxRecDepth 100000
set_option maxHeartbeats 3200000
set_option linter.all false
namespace Go.Proofs.YtknalmoackcpbaaGreat
namespace St
open Go Go.AW
abbrev dU:b7:=(.step 0 (.step 2 (.step 3 (.step 5 (.pure 1 (.read 4 (.read 6 (.step 7 (.alt 8 (.step 9 (.alt 10 .done .none)) .none)))))))))
theorem cR (S:List Nat):aH Tryz.prog [(27,dU)] S:=mixed
abbrev rr:=List (List UInt8×Bool)
def sV (x:List UInt8×Bool):AV:= .an 5 (x.1.map u8) .aE x.2
def E4:rr:= [([],true),([],true),([],true),([],true)]
def zz (o:rr):AV:= .agg (o.map sV)
def fh (b:List UInt8):Nat→Nat→List (Int×Int×Int)→rr→rr×Int×Int
 |0,_,_,o=>(o,0,0)
 |m+1,a,M,o=>
  if nZ b.length M (oa (cy b (a+8) 4)) (bj (cy b a 4)) (bj (cy b a 4)+bj (cy b (a+4) 4))=0 then
   fh b m (a+12) (M++ [(oa (cy b (a+8) 4),bj (cy b a 4),bj (cy b a 4)+bj (cy b (a+4) 4))]) (o.set (oa (cy b (a+8) 4)).toNat (cy b (bj (cy b a 4)) (bj (cy b (a+4) 4)),false))
  else(E4,a,nZ b.length M (oa (cy b (a+8) 4)) (bj (cy b a 4)) (bj (cy b a 4)+bj (cy b (a+4) 4)))
def KO:List UInt8:= [67,71,82,68]
def dt (b:List UInt8):rr×Int×Int:=
 if 65536<b.length then(E4,0,4)else if b.length<56 then(E4,b.length,1)else if b.take 4≠KO then(E4,0,2)
 else if bj (cy b 4 2)≠1 then(E4,4,2)else if bj (cy b 6 2)≠4 then(E4,6,2)else fh b 4 8 [] E4
def RS (x:rr×Int×Int):AV:= .bQ [zz x.1,.sc (.int .i64 x.2.1),.sc (.int .i64 x.2.2)]
theorem lG {P:Program}{a b c d o n j g:AV}(h1:AV.Wk P a o) (y:AV.Wk P b n) (w:AV.Wk P c j) (u:AV.Wk P d g):AV.Wk P (.agg [a,b,c,d]) (.agg [o,n,j,g]):=by
 intro G v h;cases h with
 |agg vs l h=>
  refine .agg vs l fun i q=> ?_
  match i,q with
  |0,_ =>exact h1 G _ (h 0 (by simp))
  |1,_ =>exact y G _ (h 1 (by simp))
  |2,_ =>exact w G _ (h 2 (by simp))
  |3,_ =>exact u G _ (h 3 (by simp))
theorem Sr {P:Program} :AV.Wk P (.agg [.ai,.ai,.ai,.ai]) (zz E4):=by refine lG ?_ ?_ ?_ ?_ <;>simp[sV]
theorem zh {P:Program}{x y:Int} :AV.Wk P (.bQ [.agg [.ai,.ai,.ai,.ai],.sc (.int .i64 x),.sc (.int .i64 y)]) (RS (E4,x,y)):=jB Sr (Wk.refl _) (Wk.refl _)
theorem Lc (t:List UInt8): -1≤oa t∧oa t<4:=by
 unfold oa
 repeat' split
 all_goals omega
theorem F2 {len k a e:Int}{M:List (Int×Int×Int)}(h:nZ len M k a e=0):0≤k∧M.any (fun x=>x.1==k)=false∧56≤a∧a%4=0∧e≤len∧M.any (ov a e)=false:=by
 unfold nZ at h;split at h
 ·cases h
 rename_i h1;split at h
 ·cases h
 rename_i g;split at h
 ·cases h
 rename_i i;split at h
 ·cases h
 rename_i d;simp only[not_or,Bool.not_eq_true]at h1 g d;refine⟨by omega,h1.2,by omega,by omega,by omega,d⟩
theorem K2 {k a e:Int}{M:List (Int×Int×Int)}(h:M.any (fun x=>x.1==k)=false):xQ k (Dl a e) (mV M)=mV (M++ [(k,a,e)]):=by
 induction M with
 |nil=>rfl
 |cons x M d=>
  simp only[List.any_cons,Bool.or_eq_false_iff]at h;have h1:¬k=x.1:=by intro e;simp[e]at h
  have:=d h.2;simp only[mV,List.map_cons,List.cons_append,xQ]at this⊢;rw[if_neg h1,this]
theorem PE {P:Program}{L:List AV}{k:Nat}{v d:AV}(g:k<L.length) (h:AV.Wk P v d) (j:Nat):AV.Wk P ((L.take k++v::L.drop (k+1)).getD j .any) ((L.set k d).getD j .any):=by
 have e:L.take k++v::L.drop (k+1)=L.set k v:=by rw[List.set_eq_take_append_cons_drop,if_pos g]
 rw[e,List.getD_eq_getElem?_getD,List.getD_eq_getElem?_getD,List.getElem?_set,List.getElem?_set];by_cases i:k=j
 ·subst i;simp[g,h]
 ·simp[i]
def Wh (b:List UInt8) (d bq:Nat) (v:AV) (B:AS) (m:Nat) (f:Fr) (σ':AS):Prop:=
 ∃i:Nat,m=2-i∧i≤2∧(0<i→bj (cy b 4 2)=1)∧(1<i→bj (cy b 6 2)=4)∧σ'=B.set bq (bC b ((4+2*i:Nat):Int) false)∧
  f=jJ [(0,v),(2,.ptr d 0),(5,.ptr bq 0),(39,.agg [.sc (.int .u64 1),.sc (.int .u64 4)]),(40,.sc (.int .i64 i))]
def Wg (b:List UInt8) (g bq bh d:Nat) (v:AV) (X:rr×Int×Int) (B:AS) (m:Nat) (f:Fr) (σ':AS):Prop:=
 ∃(i:Nat) (M:List (Int×Int×Int)) (o:rr),m=4-i∧i≤4∧o.length=4∧fh b (4-i) (8+12*i) M o=X∧
  σ'=((B.set bq (bC b ((8+12*i:Nat):Int) false)).set bh (.map (iQ (mV M)))).set d (.cells 141 (o.map sV))∧
  f=jJ [(0,v),(2,.ptr g 0),(5,.ptr bq 0),(11,.mp bh),(12,.ptr d 0),(57,.sc (.int .i64 i))]
theorem Il (b:List UInt8) (own:cL) (nl:Bool) (hn:nl=true→b= []) (σ:AS) (hlen:b.length≤140737488355328):
 aa Tryz.prog 44 [.an 5 (b.map u8) own nl] σ (ao (RS (dt b)) σ) No:=by
 refine aa.ob Tryz.func44 ?_;by_cases h1:65536<b.length
 ·have a7:(65536<(b.length:Int))=True:=by simp;omega
  refine gO cR @a7 tI ?_;intro Q J;refine gO cR @a7 tI ?_;rw[dt,if_pos h1];refine⟨zh,?_⟩;all_goals (repeat (first|exact lR _ |refine aq (by simp[J]) ?_))
 have a7:(65536<(b.length:Int))=False:=by simp;omega
 by_cases h2:b.length<56
 ·have b0:((b.length:Int)<56)=True:=by simp;omega
  refine gO cR (j2 @a7 @b0) tI ?_;intro Q J;refine gO cR (j2 @a7 @b0) tI ?_;rw[dt,if_neg h1,if_pos h2];refine⟨zh,?_⟩;all_goals (repeat (first|exact lR _ |refine aq (by simp[J]) ?_))
 have b0:((b.length:Int)<56)=False:=by simp;omega
 have eo:nl=false:=by
  cases nl with
  |false=>rfl
  |true=>rw[hn rfl]at h2;simp at h2
 subst eo;have h4:xB (List.take 4 (b.map u8))=some (b.take 4):=by rw[←List.map_take];exact qS _
 have ft:(4:Int)≤b.length:=by omega
 by_cases h3:b.take 4=KO
 ·have ce:((b.take 4)= [67,71,82,68])=True:=by simp[h3,KO]
  refine gO cR (j4 @a7 @b0 @h4 @ce) tI ?_;intro Q J;refine gO cR (j4 @a7 @b0 @h4 @ce) tI ?_;refine ag.of (oH b own false hn hlen _) ?_ (fun _ _ h=>h.elim);rintro r σ1 ⟨bq,Y,rfl,rfl⟩;have n:¬bq=Q:=by rintro rfl;simp at Y
  have d:=aA n;have Y:σ bq=none:=by simpa[AS.set,n]using Y
  simp-implicitDefEqProofs;refine gO cR tI tI ?_;refine ag.aC (zB bq b 0 4 false _ (by simp) (by omega) (by omega) hlen (by omega) (by omega)) ?_;simp-implicitDefEqProofs;obtain⟨B,ee,cb,ci,d3⟩:=I2 σ (.cells 85 [.ai,.ai,.ai,.ai]) J;simp only[ee];clear ee;have e4:B bq=none:=by rw[ci bq n];exact Y
  refine gO cR tI tI ?_;refine ae.dx (Wh b Q bq (.an 5 (b.map u8) own false) B) (k0:=2) ⟨0,rfl,by omega,by omega,by omega,rfl,rfl⟩ (aS.mk (by simp)) ?_ ?_
  ·simp
  rintro m f σ' ⟨i,hm,hi,g1,g2,hs,rfl⟩;have ac:σ' bq=some (bC b ((4+2*i:Nat):Int) false):=by rw[hs];simp
  have av:σ' Q=some (.cells 85 [.ai,.ai,.ai,.ai]):=by rw[hs];simp[d,cb]
  by_cases er:i<2
  ·obtain rfl|rfl:i=0∨i=1:=by omega
   ·have ac:σ' bq=some (bC b 4 false):=by rw[hs];simp
    have a9:=px bq b 4 false σ' ac;have a8:=mc bq b 4 2 false σ' ac (by omega) (by omega) hlen rfl (by omega);by_cases hc:bj (cy b 4 2)=1
    ·refine gO cR (j3 @av @hc d) (j2 @a9 @a8) ?_;refine⟨m-1,_,_,by omega,aS.mk (by simp),?_,1,by omega,by omega,fun _ =>hc,by omega,rfl,rfl⟩;rw[hs];simp
    ·refine gO cR (j3 @av @hc d) (j2 @a9 @a8) ?_;rw[dt,if_neg h1,if_neg h2,if_neg (by simpa using h3),if_pos hc];refine⟨zh,?_⟩;rw[hs];have F_:=(j5 J Y n d @cb);intro j_ y_;refine gK F_ j_ Q fun b2=>gK F_ j_ bq fun am=> ?_;intro ap;simp[AS.set,b2,am]at ap⊢;try exact ap
     exact ci _ (by assumption) ▸ ap
   ·have ac:σ' bq=some (bC b 6 false):=by rw[hs];simp
    have g1:=g1 (by omega);have a9:=px bq b 6 false σ' ac;have a8:=mc bq b 6 2 false σ' ac (by omega) (by omega) hlen rfl (by omega);by_cases hc:bj (cy b 6 2)=4
    ·refine gO cR (j3 @av @hc d) (j2 @a9 @a8) ?_;refine⟨m-1,_,_,by omega,aS.mk (by simp),?_,2,by omega,by omega,fun _ =>g1,fun _ =>hc,rfl,rfl⟩;rw[hs];simp
    ·refine gO cR (j3 @av @hc d) (j2 @a9 @a8) ?_;rw[dt,if_neg h1,if_neg h2,if_neg (by simpa using h3),if_neg (by simpa using g1),if_pos hc];refine⟨zh,?_⟩;rw[hs];have F_:=(j5 J Y n d @cb);intro j_ y_;refine gK F_ j_ Q fun b2=>gK F_ j_ bq fun am=> ?_;intro ap;simp[AS.set,b2,am]at ap⊢;try exact ap
     exact ci _ (by assumption) ▸ ap
  ·have hI:((i:Int)<2)=False:=by simp;omega
   obtain rfl:i=2:=by omega
   have g1:=g1 (by omega);have g2:=g2 (by omega);have hX:dt b=fh b 4 8 [] E4:=by rw[dt,if_neg h1,if_neg h2,if_neg (by simpa using h3),if_neg (by simpa using g1),if_neg (by simpa using g2)]
   rw[hX];have ac:σ' bq=some (bC b 8 false):=by rw[hs];simp
   have d4:AS.le σ σ':=by
    rw[hs];exact d3 _ fun j hj y hy=>by
     have:j≠bq:=by rintro rfl;rw[e4]at hy;cases hy
     simpa[AS.set,this]using hy
   clear hs;refine gO cR tI tI ?_;intro bh bs;have l:¬bq=bh:=nq ac bs;have q:=aA l;have D:¬Q=bh:=nq av bs;have V:=aA D;simp-implicitDefEqProofs;refine gO cR tI tI ?_;intro Z K be;have u:¬bq=Z:=nq ac be;have F:=aA u;have G:¬Q=Z:=nq av be;have U:=aA G;have al:=aA K;refine ae.KQ Z (E4.map sV) (by simp;exact⟨rfl,rfl⟩) (by simp[E4]) (fun k hk=> ?_) ?_
   ·match k,hk with
    |0,_ =>simp[E4,sV]
    |1,_ =>simp[E4,sV]
    |2,_ =>simp[E4,sV]
    |3,_ =>simp[E4,sV]
   simp-implicitDefEqProofs;refine gO cR tI tI ?_;generalize d7:fh b 4 8 [] E4=X;refine ae.dx (Wg b Q bq bh Z (.an 5 (b.map u8) own false) X σ') (k0:=4) ⟨0,[],E4,rfl,by omega,rfl,d7,rfl,rfl⟩ (aS.mk (by simp)) ?_ ?_
   ·intro j y hj;by_cases ej:j=bq
    ·subst ej;have hy:bC b 8 false=y:=by simpa[AS.set,l,u]using hj
     simp[AS.set,l,u,ac,hy]
    ·simpa[AS.set,ej,iQ,mV]using hj
   rintro m f σ2 ⟨i,M,o,hm,hi,ho,hX,hs,rfl⟩;have c2:∀S:AS,(∀j,j≠Q→j≠bq→j≠bh→j≠Z→ ∀y,σ2 j=some y→S j=some y)→AS.le σ S:=by intro S h j y hj;have c6:=d4 j y hj;have a1:j≠Q:=nq J hj;have a2:j≠bq:=nq Y hj;have a3:j≠bh:=nq bs c6;have a4:j≠Z:=nq be c6;refine h j a1 a2 a3 a4 y ?_;rw[hs];simp[AS.set,a2,a3,a4,c6]
   clear d7;generalize hc:8+12*i=c at hX hs;generalize hv:AV.an 5 (b.map u8) own false=bv;have gR:σ2 bq=some (bC b c false):=by rw[hs];simp[l,u]
   have gM:σ2 bh=some (.map (iQ (mV M))):=by rw[hs];simp[al]
   have gO:σ2 Z=some (.cells 141 (o.map sV)):=by rw[hs];simp
   have g2:σ2 Q=some (.cells 85 [.ai,.ai,.ai,.ai]):=by rw[hs];simp[D,G,d,av]
   by_cases er:i<4
   ·have hI:((i:Int)<4)=True:=by simp;omega
    have a9:=px bq b c false σ2 gR;have a6:=JY bq b c false σ2 (by simp) gR (by omega) (by omega) hlen;rw[show 4-i=(4-(i+1))+1 by omega,fh]at hX;have e0:0≤bj (cy b c 4):=cu _;have e1:0≤bj (cy b (c+4) 4):=cu _;have e2:=Lc (cy b (c+8) 4);generalize bj (cy b c 4)=x at a6 hX e0;generalize bj (cy b (c+4) 4)=y at a6 hX e1;generalize oa (cy b (c+8) 4)=k at a6 hX e2;simp only[Dl]at a6;have b6:=fun σ h=>HU bh k x (x+y) b.length M σ e0 h;simp only[Dl]at b6;repeat (first
     |(with_reducible first|apply ae.seq|apply ae.block|refine j2 (by first|omega|assumption|decide) ?_)
     |((first|(with_reducible first|apply ae.fork|apply ae.region|show aN _ _ _ |show aB _ _ _ _ _ _ _ _ _)|((with_reducible apply ae.aR (id:=27) (t:=dU));(exact mixed);kernel_rfl;kernel_rfl;(repeat (with_reducible first|apply ak.then|apply ak.block|apply ak.body|apply ak.no)))|((with_reducible apply ag.id);first|apply ag.aC (a9)|apply ag.aC (a6))|((with_reducible apply aF.id);first|apply aF.aC (fun _ =>a9)|apply aF.aC (fun _ =>a6)));simp-implicitDefEqProofs [hI])
     |((with_reducible first|apply ae.ret|apply ae.skip|apply ae.exit);try simp-implicitDefEqProofs))
    intro af fe b1;have w:¬Q=af:=nq g2 b1;have L:=aA w;have g:¬bh=af:=nq gM b1;have A:=aA g;have v:¬Z=af:=nq gO b1;have I:=aA v;have E:¬bq=af:=nq gR b1;have H:=aA E;by_cases hw:nZ b.length M k x (x+y)=0
    ·rw[if_pos hw]at hX;rw[hw]at b6;repeat (first
      |(with_reducible first|apply ae.seq|apply ae.block|refine j2 (by first|omega|assumption|decide) ?_)
      |((first|(with_reducible first|apply ae.fork|((fail_if_success (apply ae.region (id:=26)));apply ae.region)|show aN _ _ _ |show aB _ _ _ _ _ _ _ _ _)|((with_reducible apply ae.aR (id:=27) (t:=dU));(exact mixed);kernel_rfl;kernel_rfl;(repeat (with_reducible first|apply ak.then|apply ak.block|apply ak.body|apply ak.no)))|((with_reducible apply ag.id);first|apply ag.aC (b6 _ (by simp[AS.set,g,q,gM])))|((with_reducible apply aF.id);first|apply aF.aC (fun _ =>b6 _ (by simp[AS.set,g,q,gM]))));simp-implicitDefEqProofs [←hv])
      |((with_reducible first|apply ae.ret|apply ae.skip|apply ae.exit);try simp-implicitDefEqProofs))
     with_reducible apply ae.eX
     refine br.first 3 ?_;simp-implicitDefEqProofs;refine br.sp rfl (il.DI bh k (mV M) Tryz.underlying167 Tryz.underlying3 (by simp) (by simp) (by simp[g,q,gM]) ?_);refine br.rest ?_;simp-implicitDefEqProofs;obtain⟨w1,w2,w3,w4,w5,w6⟩:=F2 hw;obtain⟨kn,rfl⟩:=Int.eq_ofNat_of_zero_le w1;have d6:kn<4:=by omega
     have hu:=K2 (a:=x) (e:=x+y) w2;simp only[Dl]at hu;rw[hu];generalize d8:AV.an 5 (b.map u8) own false=bv;have d5:0≤x:=e0;have et:x≤x+y:=by omega
     repeat (first
      |(with_reducible first|apply ae.seq|apply ae.block|refine j2 (by first|omega|assumption|decide) ?_)
      |((first|(with_reducible first|apply ae.fork|apply ae.region|show aN _ _ _ |show aB _ _ _ _ _ _ _ _ _)|((with_reducible apply ae.aR (id:=27) (t:=dU));(exact mixed);kernel_rfl;kernel_rfl;(repeat (with_reducible first|apply ak.then|apply ak.block|apply ak.body|apply ak.no)))|((with_reducible apply ag.id);first|apply ag.aC (vu Z kn d6 _))|((with_reducible apply aF.id);first|apply aF.aC (fun _ =>vu Z kn d6 _)));simp-implicitDefEqProofs [d5,w5,←d8,A])
      |((with_reducible first|apply ae.ret|apply ae.skip|apply ae.exit);try simp-implicitDefEqProofs [d5,et,w5,←d8,n,d,cb,q,l,ac,V,D,av,F,u,U,G,L,w,g2,A,g,gM,I,v,gO,H,E,gR]))
     rw[show List.drop x.toNat (List.take (x+y).toNat (List.map u8 b))=(cy b x y).map u8 by simp[cy,List.map_drop,List.map_take]];have em:(cy b x y).length≤140737488355328:=by simp[cy];omega
     refine ag.xY (qf _ .aE false (by simp) (by simpa using em) _) (fun tk bc=> ?_);have O:¬tk=bq:=by rintro rfl;simp[AS.set,l,E]at bc
     have T:¬tk=af:=by rintro rfl;simp[AS.set,A]at bc
     have P:¬tk=bh:=by rintro rfl;simp[AS.set]at bc
     have ab:¬tk=Z:=by rintro rfl;simp[AS.set,F,K,v,gO]at bc
     have b3:¬tk=Q:=by rintro rfl;simp[AS.set,d,D,w,g2]at bc
     have c4:σ2 tk=none:=by simpa[AS.set,O,T,P]using bc
     clear bc;have a0:=aA ab;have b4:=aA O;have bb:=aA T;have b5:=aA P;have dn:=aA b3;have es:kn<o.length:=by omega
     simp-implicitDefEqProofs [a0,K,F,v,gO];refine⟨by omega,?_⟩;refine ae.KQ Z ((o.set kn (cy b x y,false)).map sV) (by simp;exact⟨rfl,rfl⟩) (by simp;omega) (fun j hj=> ?_) ?_
     ·rw[List.map_set];refine PE (by simpa using es) ?_ j;simp[sV]
     simp-implicitDefEqProofs;repeat (first
      |(with_reducible first|apply ae.seq|apply ae.block|refine j2 (by first|omega|assumption|decide) ?_)
      |((first|(with_reducible first|apply ae.fork|apply ae.region|show aN _ _ _ |show aB _ _ _ _ _ _ _ _ _)|((with_reducible apply ae.aR (id:=27) (t:=dU));(exact mixed);kernel_rfl;kernel_rfl;(repeat (with_reducible first|apply ak.then|apply ak.block|apply ak.body|apply ak.no))));simp-implicitDefEqProofs)
      |((with_reducible first|apply ae.ret|apply ae.skip|apply ae.exit);try simp-implicitDefEqProofs [n,d,cb,q,l,ac,V,D,av,F,u,U,G,L,w,g2,A,g,gM,I,v,gO,H,E,gR]))
     have c7:σ' tk=none:=by rw[hs]at c4;simpa[AS.set,ab,P,O]using c4
     have d9:σ' af=none:=by rw[hs]at b1;simpa[AS.set,I,A,H]using b1
     have ew:((8+12*(i+1):Nat):Int)=(c:Int)+12:=by omega
     refine⟨m-1,_,_,by omega,aS.mk ?_,?_,i+1,M++ [((kn:Int),x,x+y)],o.set kn (cy b x y,false),by omega,by omega,by simpa using ho,?_,rfl,rfl⟩
     ·simp[g8 (show i<4000000000000000000 by omega)]
     ·rw[hs,ew,List.map_set];have F_:=(j2 (j7 c7 @d9 O b4 P b5 ab) (j2 (j7 a0 T bb al K n d) (j2 (j7 @cb q l @ac V D @av) (j2 (j7 F u U G L w @g2) (j2 (j7 A g @gM I v @gO H) (j2 E @gR))))));intro j_ y_;refine gK F_ j_ bq fun am=>gK F_ j_ bh fun dl=>gK F_ j_ Z fun de=>gK F_ j_ tk fun ea=>gK F_ j_ af fun cs=> ?_;intro ap;simp[AS.set,am,dl,de,ea,cs]at ap⊢;try exact ap
     ·rw[←hX,←hc];rfl
    ·rw[if_neg hw]at hX;repeat (first
      |(with_reducible first|apply ae.seq|apply ae.block|refine j2 (by first|omega|assumption|decide) ?_)
      |((first|(with_reducible first|apply ae.fork|apply ae.region|show aN _ _ _ |show aB _ _ _ _ _ _ _ _ _)|((with_reducible apply ae.aR (id:=27) (t:=dU));(exact mixed);kernel_rfl;kernel_rfl;(repeat (with_reducible first|apply ak.then|apply ak.block|apply ak.body|apply ak.no)))|((with_reducible apply ag.id);first|apply ag.aC (b6 _ (by simp[AS.set,g,q,gM])))|((with_reducible apply aF.id);first|apply aF.aC (fun _ =>b6 _ (by simp[AS.set,g,q,gM]))));simp-implicitDefEqProofs [hw,←hv,d,w,g2])
      |((with_reducible first|apply ae.ret|apply ae.skip|apply ae.exit);try simp-implicitDefEqProofs))
     rw[←hX];refine⟨zh,?_⟩;refine c2 _ fun j a1 a2 a3 a4 y hy=> ?_;have a5:j≠af:=nq b1 hy;simp[AS.set,a1,a2,a5,hy]
   ·have hI:((i:Int)<4)=False:=by simp;omega
    obtain rfl:i=4:=by omega
    simp only[Nat.sub_self,fh]at hX
    match o,ho with
    |[o0,o1,o2,o3],_ =>
     simp only[List.map_cons,List.map_nil,sV]at gO;repeat (first
      |(with_reducible first|apply ae.seq|apply ae.block|refine j2 (by first|omega|assumption|decide) ?_)
      |((first|(with_reducible first|apply ae.fork|apply ae.region|show aN _ _ _ |show aB _ _ _ _ _ _ _ _ _)|((with_reducible apply ae.aR (id:=27) (t:=dU));(exact mixed);kernel_rfl;kernel_rfl;(repeat (with_reducible first|apply ak.then|apply ak.block|apply ak.body|apply ak.no))));simp-implicitDefEqProofs [gO,g2])
      |((with_reducible first|apply ae.ret|apply ae.skip|apply ae.exit);try simp-implicitDefEqProofs))
     rw[←hX];refine⟨Wk.refl _,?_⟩;refine c2 _ fun j a1 a2 a3 a4 y hy=> ?_;simp[AS.set,a1,hy]
 ·have ce:((b.take 4)= [67,71,82,68])=False:=by simpa[KO]using h3
  refine gO cR (j4 @a7 @b0 @h4 @ce) tI ?_;intro Q J;refine gO cR (j4 @a7 @b0 @h4 @ce) tI ?_;rw[dt,if_neg h1,if_neg h2,if_pos h3];refine⟨zh,?_⟩;all_goals (repeat (first|exact lR _ |refine aq (by simp[J]) ?_))
def sO (x:List UInt8×Bool) (o:cL):AV:= .an 5 (x.1.map u8) o x.2
def QH (o n l j:List UInt8×Bool) (i h g d:cL):AV:= .agg [sO o i,sO n h,sO l g,sO j d]
def jc {α:Type}(i h g d:α):Nat→α
 |0=>i
 |1=>h
 |2=>g
 | _ =>d
def pad (n:Nat):Nat:=(4-n%4)%4
def kp (s:Nat→List UInt8):Nat→List UInt8
 |0=> []
 |k+1=>kp s k++List.replicate (pad (kp s k).length) 0++s k
def mz (s:Nat→List UInt8) (k:Nat):Nat:=56+(kp s k).length+pad (kp s k).length
def uL (s:Nat→List UInt8):Nat→List UInt8
 |0=> [67,71,82,68,1,0,4,0]
 |k+1=>uL s k++bg (mz s k) 4++bg (s k).length 4++tg k
def jo (s:Nat→List UInt8):List UInt8:=uL s 4++kp s 4
theorem Dc (k:Nat):(tg k).length=4:=by unfold tg;split<;>rfl
theorem su (s:Nat→List UInt8) (k:Nat):(uL s k).length=8+12*k:=by
 induction k with
 |zero=>rfl
 |succ k d=>simp only[uL,List.length_append,d,ax,Dc];omega
theorem zO (n:Nat):pad n<4:=by unfold pad;omega
theorem OC (n:Nat):(n+pad n)%4=0:=by unfold pad;omega
theorem OB (n:Nat):(56+n+3)/4*4=56+n+pad n:=by unfold pad;omega
theorem Ax {s:Nat→List UInt8}{k N:Nat}(d:∀j,j<k→(s j).length≤N):(kp s k).length≤k*(N+3):=by
 induction k with
 |zero=>simp[kp]
 |succ k g=>have h1:=g (fun j h=>d j (by omega));have l:=d k (by omega);have i:=zO (kp s k).length;simp only[kp,List.length_append,List.length_replicate];have:(k+1)*(N+3)=k*(N+3)+(N+3):=Nat.succ_mul _ _;omega
theorem Ja {α β:Type}(f:α→β) (i h g d:α) (k:Nat):f (jc i h g d k)=jc (f i) (f h) (f g) (f d) k:=by unfold jc;split<;>rfl
theorem UO (o n l j:List UInt8×Bool) (i h g d:cL) {k:Nat}(q:k<4): [sO o i,sO n h,sO l g,sO j d][k]? =some (sO (jc o n l j k) (jc i h g d k)):=by
 match k,q with
 |0,_ =>rfl
 |1,_ =>rfl
 |2,_ =>rfl
 |3,_ =>rfl
theorem H8 {k:Nat}(d:k<4):List.take 4 (List.drop (4*k) [AV.sc (.int .u8 82),AV.sc (.int .u8 79),AV.sc (.int .u8 87),AV.sc (.int .u8 83),AV.sc (.int .u8 78),AV.sc (.int .u8 65),AV.sc (.int .u8 77),AV.sc (.int .u8 69),AV.sc (.int .u8 66),AV.sc (.int .u8 76),AV.sc (.int .u8 79),AV.sc (.int .u8 66),AV.sc (.int .u8 67),AV.sc (.int .u8 79),AV.sc (.int .u8 68),AV.sc (.int .u8 69)])=(tg k).map u8:=by
 match k,d with
 |0,_ =>rfl
 |1,_ =>rfl
 |2,_ =>rfl
 |3,_ =>rfl
def WB (s:Nat→List UInt8) (i h d:Nat) (B:AS) (m:Nat) (f:Fr) (σ':AS):Prop:=
 ∃(k g:Nat) (Pl:List Int),m=4-k∧k≤4∧B g=none∧g≠d∧Pl.length=4∧(∀j,j<k→Pl[j]? =some (mz s j:Int))∧
  σ'=(B.set d (.cells 142 (Pl.map aV))).set g (.tok (uL s k).length)∧
  f=jJ [(1,.ptr i 0),(4,.ptr h 0),(5,.an 5 ((uL s k).map u8) (.tok g) false),(6,.sc (.int .i64 ((56+(kp s k).length:Nat):Int))),(7,.ptr d 0),(36,.sc (.int .i64 k))]
def WA (s:Nat→List UInt8) (H:List UInt8) (h g d:Nat) (S:AS) (m:Nat) (f:Fr) (σ':AS):Prop:=
 ∃k:Nat,m=4-k∧k≤4∧σ'=S.set h (.tok (H.length+(kp s k).length))∧
  f=jJ [(4,.ptr g 0),(5,.an 5 (H.map u8++(kp s k).map u8) (.tok h) false),(7,.ptr d 0),(79,.sc (.int .i64 k))]
theorem iL (S:List Nat):aH Tryz.prog [] S:=mixed
def JQ (s:Nat→List UInt8) (σ:AS) (r:AV) (σ':AS):Prop:=(65536<(jo s).length∧ao (.bQ [.ai,.sc (.int .i64 4)]) σ r σ')∨(¬65536<(jo s).length∧la (fun d=> .bQ [.an 5 ((jo s).map u8) (.tok d) false,.sc (.int .i64 0)]) (jo s).length σ r σ')
theorem Jz (P K O M:List UInt8×Bool) (o0 o1 o2 o3:cL) (hl:∀j,(jc P K O M j).1.length≤65536) (σ:AS):
 aa Tryz.prog 33 [QH P K O M o0 o1 o2 o3] σ
  (JQ (fun k=>(jc P K O M k).1) σ) No:=by
 have q0:(65536<(P.1.length:Int))=False:=by have:=hl 0;simp[jc]at this⊢;omega
 have q1:(65536<(K.1.length:Int))=False:=by have:=hl 1;simp[jc]at this⊢;omega
 have q2:(65536<(O.1.length:Int))=False:=by have:=hl 2;simp[jc]at this⊢;omega
 have q3:(65536<(M.1.length:Int))=False:=by have:=hl 3;simp[jc]at this⊢;omega
 generalize fb:(fun k=>(jc P K O M k).1)=s;have c1:∀k,(jc P K O M k).1=s k:=fun k=>by rw[←fb]
 have ca:∀k,(s k).length≤65536:=fun k=>by rw[←c1];exact hl k
 simp only[QH];refine aa.ob Tryz.func33 ?_;have hg:=fun k hk=>UO P K O M o0 o1 o2 o3 (k:=k) hk;simp only[sO]at hg⊢;refine gO (S:= [4]) iL tI tI ?_;intro a9 ap;refine gO (S:= [4]) iL tI tI ?_;intro J o am;have n:=aA o;refine gO (S:= [4]) iL (j5 @q0 @q1 @q2 @q3 n) tI ?_
 with_reducible apply ae.eX
 refine br.sp rfl (il.ml (by decide) ?_);simp-implicitDefEqProofs [bH];intro id5 ac af c4;refine br.sp rfl (il.RT (by decide) id5 (e:=5) (m:=8) (([67,71,82,68,1,0,4,0]:List UInt8).map u8) (by simp[ac,af,c4]) Tryz.underlying30 rfl Tryz.underlying5 (by simp) (by simp) (by simp) rfl ?_);refine br.rest ?_;simp-implicitDefEqProofs;refine gO iL tI tI ?_;intro I i l al;have g:=aA i;have u:=aA l;refine ae.fM 5 5 (([67,71,82,68,1,0,4,0]:List UInt8).map u8) false (by simp[Tryz.ntmps33]) (.inl (by simp)) ?_;simp-implicitDefEqProofs [o,n,i,g,l,u];intro cl Y Z ab c3;obtain⟨B,ek,b0,a8,U,gM⟩:=Fa σ (.cells 85 [AV.an 5 (P.1.map u8) o0 P.2,AV.an 5 (K.1.map u8) o1 K.2,AV.an 5 (O.1.map u8) o2 O.2,AV.an 5 (M.1.map u8) o3 M.2]) (.cells 141 [AV.an 5 (P.1.map u8) o0 P.2,AV.an 5 (K.1.map u8) o1 K.2,AV.an 5 (O.1.map u8) o2 O.2,AV.an 5 (M.1.map u8) o3 M.2]) ap am n;simp only[ek];clear ek;have hx:B I=none:=by rw[U I l i];exact al
 have f5:B cl=none:=by rw[U cl ab Z];exact c3
 refine gO iL tI tI ?_;refine ae.dx (WB s a9 J I B) (k0:=4) ⟨0,cl,[0,0,0,0],rfl,by omega,f5,Y,rfl,by omega,rfl,rfl⟩ (aS.mk (by simp[uL,kp])) (by simp[uL,aG]) ?_;rintro m f σ' ⟨k,V,Pl,hm,hk,T,w,fw,d9,hs,rfl⟩;have G:=aA w;have h7:σ' I=some (.cells 142 (Pl.map aV)):=by rw[hs];simp[G]
 have ht:σ' V=some (.tok (uL s k).length):=by rw[hs];simp
 have D:¬J=V:=nq a8 T;have Q:=aA D;have h4:σ' J=B J:=by rw[hs];simp[D,g]
 rw[a8]at h4;have hv:=Ax (s:=s) (k:=k) (N:=65536) (fun j _ =>ca j);have g2:(kp s k).length≤262156:=by have:k*(65536+3)≤4*65539:=Nat.mul_le_mul hk (by omega);omega
 have fa:=OB (kp s k).length;have fd:=zO (kp s k).length;by_cases cc:k<4
 ·have hK:((k:Int)<4)=True:=by simp;omega
  have hH:uL s (k+1)=uL s k++bg (mz s k) 4++bg (s k).length 4++tg k:=rfl;have d3:56+(kp s (k+1)).length=mz s k+(s k).length:=by simp only[kp,mz,List.length_append,List.length_replicate];omega
  have ea:mz s k=(56+(kp s k).length+3)/4*4:=by rw[mz];omega
  have fz:mz s k<300000:=by rw[mz];omega
  have hp:=ca k;have hw:=su s k;generalize 56+(kp s k).length=A at ea fa⊢;obtain⟨p,dp⟩:∃p,mz s k=p:=⟨_,rfl⟩;rw[dp]at hH d3 ea fz;have e1:IntKind.i64.wrap ((A:Int)+3)=(A:Int)+3:=ay (by omega) (by omega);have e2:((A:Int)+3).tdiv 4=(((A+3)/4:Nat):Int):=by rw[Int.tdiv_eq_ediv_of_nonneg (by omega)];omega
  generalize (A+3)/4=q at*;have e3:IntKind.i64.wrap (q:Int)=(q:Int):=ay (by omega) (by omega);have e4:IntKind.i64.wrap ((q:Int)*4)=(p:Int):=by rw[ay (by omega) (by omega)];omega
  have e5:IntKind.u64.wrap (p:Int)=(p:Int):=nw (by omega) (by omega);have e6:IntKind.u64.wrap ((s k).length:Int)=((s k).length:Int):=nw (by omega) (by omega);have e7:IntKind.i64.wrap ((p:Int)+(s k).length)=((p+(s k).length:Nat):Int):=by rw[ay (by omega) (by omega)];simp
  have cb:=fun σ=>oC (uL s k) (.tok V) false (by simp) (by omega) p 4 (by omega) (by omega) rfl σ;have bs:=fun L σ=>oC (uL s k++bg p 4) (.tok L) false (by simp) (by simp[ax];omega) (s k).length 4 (by omega) (by omega) rfl σ;simp only[show(4:Int).toNat=4 from rfl]at cb bs;have ec:(uL s k++bg p 4).length=(uL s k).length+4:=by simp[ax]
  generalize uL s k++bg p 4=L1 at cb bs hH ec;have eb:(L1++bg (s k).length 4).length=L1.length+4:=by simp[ax]
  generalize L1++bg (s k).length 4=L2 at bs hH eb;have a6:=hg k cc;rw[c1 k]at a6;have av:∀h,[AV.an 5 (P.1.map u8) o0 P.2,AV.an 5 (K.1.map u8) o1 K.2,AV.an 5 (O.1.map u8) o2 O.2,AV.an 5 (M.1.map u8) o3 M.2][k]'h=AV.an 5 ((s k).map u8) (jc o0 o1 o2 o3 k) (jc P K O M k).2:=fun h=>(List.getElem?_eq_some_iff.1 a6).2;have cd:k<Pl.length:=by omega
  have d4:k<(Pl.map aV).length:=by simpa using cd
  refine gO iL (j2 (j7 @hK @e1 @e2 @e3 @e4 @h4 @h7) (j4 @av cc @e5 g)) (vu J k cc) ?_;refine ag.xY (cb _) (fun L E=> ?_);have c0:¬L=V:=by rintro rfl;simp[AS.set,ht,w]at E
  have b6:¬L=I:=by rintro rfl;simp[AS.set]at E
  have e0:¬L=J:=by rintro rfl;simp[AS.set,h4,g]at E
  have E:σ' L=none:=by simpa[AS.set,b6]using E
  have ci:=aA c0;have ch:=aA b6;have dl:=aA e0;simp-implicitDefEqProofs [o,n,i,g,l,u,b0,a8];refine gO iL @e6 tI ?_;refine ag.xY (bs L _) (fun X v=> ?_);have cs:¬X=L:=by rintro rfl;simp[AS.set]at v
  have b5:¬X=V:=by rintro rfl;simp[AS.set,ht,w,ci]at v
  have a5:¬X=I:=by rintro rfl;simp[AS.set,ch]at v
  have ew:¬X=J:=by rintro rfl;simp[AS.set,h4,g,dl]at v
  have v:σ' X=none:=by simpa[AS.set,a5,cs]using v
  have de:=aA b5;have c9:=aA a5;have gI:=aA ew;have c8:=aA cs;have e8:IntKind.i64.wrap (4*(k:Int))=4*(k:Int):=ay (by omega) (by omega);have e9:IntKind.i64.wrap (4*(k:Int)+4)=4*(k:Int)+4:=ay (by omega) (by omega);have f8:(4*(k:Int)).toNat=4*k:=by omega
  have f7:(4*(k:Int)+4).toNat=4*k+4:=by omega
  simp-implicitDefEqProofs [o,n,i,g,l,u,b0,a8];refine gO iL (j4 @e8 @e9 @f8 @f7) tI ?_;refine⟨m-1,_,_,by omega,aS.mk ?_,?_,k+1,X,Pl.set k p,by omega,by omega,?_,a5,by simpa using fw,fun j hj=> ?_,rfl,rfl⟩
  ·have hE:List.map u8 (uL s (k+1))=List.map u8 L2++List.map u8 (tg k):=by rw[hH,List.map_append]
   simp[g8 (show k<4000000000000000000 by omega),e7,d3,hE,H8 cc]
  ·clear cb bs hg a6 av;have hr:=su s (k+1);have d7:List.take k (List.map aV Pl)++AV.sc (Value.int IntKind.i64 p)::List.drop (k+1) (List.map aV Pl)=(Pl.set k (p:Int)).map aV:=by rw[List.map_set,List.set_eq_take_append_cons_drop,if_pos d4];rfl
   rw[d7,show L2.length+min 4 (16-4*k)=(uL s (k+1)).length by omega,hs];have E:B L=none:=by rw[hs]at E;simpa[AS.set,c0,b6]using E
   have v:B X=none:=by rw[hs]at v;simpa[AS.set,b5,a5]using v
   have F_:=(j2 (j7 @E @v @T @c0 @ci @b6 @ch) (j2 (j7 @b5 @de @a5 @c9 @cs @c8 w) (j2 (j7 G o n i g l u) (j2 @b0 @a8))));intro j_ y_;refine gK F_ j_ I fun c7=>gK F_ j_ X fun c5=>gK F_ j_ L fun c6=>gK F_ j_ V fun eg=> ?_;intro dn;simp[AS.set,F_,c7,c5,c6,eg]at dn⊢;try exact dn
  ·rw[hs]at v;simpa[AS.set,b5,a5]using v
  ·rw[List.getElem?_set];by_cases d6:k=j
   ·subst d6;simp[cd,dp]
   ·rw[if_neg d6];exact d9 j (by omega)
 ·have hK:((k:Int)<4)=False:=by simp;omega
  obtain rfl:k=4:=by omega
  have c2:=su s 4;have g0:(jo s).length=56+(kp s 4).length:=by rw[jo,List.length_append,c2]
  by_cases cj:65536<(jo s).length
  ·have hA:((65536:Int)<56+((kp s 4).length:Int))=True:=eq_true (by omega);refine gO iL @hA tI ?_;refine⟨_,σ,Wk.refl _,?_,.inl ⟨cj,rfl,rfl⟩⟩;rw[hs];intro j y hj;have K:j≠a9:=nq ap hj;have a4:j≠J:=nq am hj;have a7:j≠I:=nq al hj;have F:¬V=a9:=nq b0 T;have bb:σ V=none:=by rw[←U V F Q];exact T
   have ej:j≠V:=nq bb hj;have:=U j K a4;simp[AS.set,ej,a7,this,hj]
  have hA:((65536:Int)<56+((kp s 4).length:Int))=False:=eq_false (by omega);refine gO iL @hA tI ?_;generalize f0:uL s 4=H at hs c2 ht;have d5:jo s=H++kp s 4:=by rw[jo,f0]
  generalize hS:B.set I (.cells 142 (Pl.map aV))=S at hs;have fi:S I=some (.cells 142 (Pl.map aV)):=by rw[←hS];simp
  have fk:S J=some (.cells 141 [AV.an 5 (P.1.map u8) o0 P.2,AV.an 5 (K.1.map u8) o1 K.2,AV.an 5 (O.1.map u8) o2 O.2,AV.an 5 (M.1.map u8) o3 M.2]):=by rw[←hS];simp[g,a8]
  refine ae.dx (WA s H V J I S) (k0:=4) ⟨0,rfl,by omega,rfl,rfl⟩ (aS.mk (by simp[kp])) (by rw[hs];simp[kp]) ?_;rintro m2 f σ2 ⟨j,ho,hj,bc,rfl⟩;have g7:σ2 I=some (.cells 142 (Pl.map aV)):=by rw[bc];simp[G,fi]
  have g4:σ2 J=some (.cells 141 [AV.an 5 (P.1.map u8) o0 P.2,AV.an 5 (K.1.map u8) o1 K.2,AV.an 5 (O.1.map u8) o2 O.2,AV.an 5 (M.1.map u8) o3 M.2]):=by rw[bc];simp[D,fk]
  have gt:σ2 V=some (.tok (H.length+(kp s j).length)):=by rw[bc];simp
  have hu:=Ax (s:=s) (k:=j) (N:=65536) (fun j _ =>ca j);have g1:(kp s j).length≤262156:=by have:j*(65536+3)≤4*65539:=Nat.mul_le_mul hj (by omega);omega
  have fd:=zO (kp s j).length;by_cases ar:j<4
  ·have hJ:((j:Int)<4)=True:=by simp;omega
   have ck:kp s (j+1)=kp s j++List.replicate (pad (kp s j).length) 0++s j:=rfl;have fv:=d9 j ar;have hn:mz s j=H.length+(kp s j).length+pad (kp s j).length:=by rw[mz,c2]
   have cd:j<Pl.length:=by omega
   have d8:∀h,Pl[j]'h=(mz s j:Int):=fun h=>(List.getElem?_eq_some_iff.1 fv).2;generalize mz s j=p at*;generalize gS:pad (kp s j).length=d at*;have e1:IntKind.i64.wrap ((p:Int)-((H.length:Int)+((kp s j).length:Int)))=(d:Int):=by rw[ay (by omega) (by omega)];omega
   have a6:=hg j ar;rw[c1 j]at a6;have av:∀h,[AV.an 5 (P.1.map u8) o0 P.2,AV.an 5 (K.1.map u8) o1 K.2,AV.an 5 (O.1.map u8) o2 O.2,AV.an 5 (M.1.map u8) o3 M.2][j]'h=AV.an 5 ((s j).map u8) (jc o0 o1 o2 o3 j) (jc P K O M j).2:=fun h=>(List.getElem?_eq_some_iff.1 a6).2;have hq:=ca j;have d1:(d:Int)≤1000000:=by omega
   refine gO iL (j2 (j7 @hJ @g7 @g4 @cd @d8 @aG @e1) (j6 @av @ar @gt @d1 D @Nat.add_assoc)) (vu J j ar) ?_;have hE:List.map u8 (kp s (j+1))=List.map u8 (kp s j)++(List.replicate d (u8 0)++List.map u8 (s j)):=by rw[ck,List.map_append,List.map_append,List.map_replicate,List.append_assoc]
   have f3:(kp s (j+1)).length=(kp s j).length+(d+(s j).length):=by rw[ck];simp[Nat.add_assoc]
   refine⟨m2-1,_,_,by omega,aS.mk ?_,?_,j+1,by omega,by omega,rfl,rfl⟩
   ·simp[g8 (show j<4000000000000000000 by omega),hE,u8]
   ·rw[bc,f3];simp
  ·have hJ:((j:Int)<4)=False:=by simp;omega
   obtain rfl:j=4:=by omega
   refine gO iL tI tI ?_;have F:¬V=a9:=nq b0 T;have bb:σ V=none:=by rw[←U V F Q];exact T
   refine⟨_,σ.set V (.tok (jo s).length),?_,?_,.inr ⟨cj,V,bb,rfl,rfl⟩⟩
   ·rw[d5];exact iR (by simp)
   rw[bc,←hS,d5];intro j y hj;by_cases ej:j=V
   ·subst ej;simpa[AS.set]using hj
   ·have ce:σ j=some y:=by simpa[AS.set,ej]using hj
    have K:j≠a9:=nq ap ce;have a4:j≠J:=nq am ce;have a7:j≠I:=nq al ce;have:=U j K a4;simp[AS.set,ej,a7,this,ce]
theorem qW (S:List Nat):aH Tryz.prog [] S:=mixed
theorem JA (j i h l:List UInt8×Bool) (D A y w:cL) (I:j.1.length≤140737488355328∧i.1.length≤140737488355328∧h.1.length≤140737488355328∧l.1.length≤140737488355328)
 (H:65536<j.1.length∨65536<i.1.length∨65536<h.1.length∨65536<l.1.length) (σ:AS):
 aa Tryz.prog 33 [QH j i h l D A y w] σ (ao (.bQ [.ai,.sc (.int .i64 4)]) σ) No:=by
 simp only[QH,sO];refine aa.ob Tryz.func33 ?_;refine gO qW tI tI ?_;intro F o;refine gO qW tI tI ?_;intro E g n;have d:=aA g;have hle:AS.le σ ((σ.set F (.cells 85 [AV.an 5 (j.1.map u8) D j.2,AV.an 5 (i.1.map u8) A i.2,AV.an 5 (h.1.map u8) y h.2,AV.an 5 (l.1.map u8) w l.2])).set E (.cells 141 [AV.an 5 (j.1.map u8) D j.2,AV.an 5 (i.1.map u8) A i.2,AV.an 5 (h.1.map u8) y h.2,AV.an 5 (l.1.map u8) w l.2])):=
  AS.ah (AS.ah (lR _) o) (by simpa[AS.set,g]using n)
 by_cases c0:65536<j.1.length
 ·have q:(65536<(j.1.length:Int))=True:=eq_true (by omega);refine gO qW (j2 @q d) tI ?_;exact hle
 have q:(65536<(j.1.length:Int))=False:=eq_false (by omega);by_cases K:65536<i.1.length
 ·have u:(65536<(i.1.length:Int))=True:=eq_true (by omega);refine gO qW (j3 @q @u d) tI ?_;exact hle
 have u:(65536<(i.1.length:Int))=False:=eq_false (by omega);by_cases J:65536<h.1.length
 ·have v:(65536<(h.1.length:Int))=True:=eq_true (by omega);refine gO qW (j4 @q @u @v d) tI ?_;exact hle
 have v:(65536<(h.1.length:Int))=False:=eq_false (by omega);have G:(65536<(l.1.length:Int))=True:=eq_true (by omega);refine gO qW (j5 @q @u @v @G d) tI ?_;exact hle
end St
namespace Pl
open Go Go.AW
theorem gV (S:List Nat):aH Tryz.prog [] S:=mixed
theorem Cq (g bh:Nat) (d:List UInt8) (o:cL) (pl:AV) (σ:AS) (h1:σ g=some (fW d o bh)) (hl:d.length≤140737488355328) (i:¬65536<d.length):
 aa Tryz.prog 71 [.ptr g 0,pl] σ (ao (.bQ [.an 5 (d.map u8) o false,pl,.sc (.int .i64 0)]) σ) No:=by
 have h:(65536<(d.length:Int))=False:=by simp;omega
 refine aa.ob Tryz.func71 ?_;simp only[fW]at h1;exact gE gV (j2 @h1 @h) tI
def gW (s:List UInt8):List (List UInt8×Nat)→Option Nat
 |[]=>none
 |(k,a)::r=>if s=k then some a else gW s r
theorem qF (s:List UInt8) (d:List (List UInt8×Nat)) (k:List UInt8) (a:Nat):gW s (d++ [(k,a)])=match gW s d with|some x=>some x|none=>if s=k then some a else none:=by
 induction d with
 |nil=>rfl
 |cons p r g=>obtain⟨q,x⟩:=p;by_cases h:s=q<;>simp[gW,h,g]
def tK:List (List UInt8)→List UInt8→List (List UInt8×Nat)→List UInt8×List (List UInt8×Nat)
 |[],p,d=>(p,d)
 |s::r,p,d=>match gW s d with
  |some a=>tK r p (d++ [(s,a)])
  |none=>tK r (p++s++ [0]) (d++ [(s,p.length)])
def bX (l:List (List UInt8)):List UInt8×List Int×Int:=
 if l.all da=false then([],[],18)else
 if 65536<(tK l [0] []).1.length then([],[],4)else((tK l [0] []).1,(tK l [0] []).2.map (fun p=>(p.2:Int)),0)
theorem yX (k:ByteArray) (v:AV) (s:ByteArray):∀d,iz s (kV k v d)=if s=k then some v else iz s d:=by
 intro d;induction d with
 |nil=>by_cases h:s=k<;>simp[kV,iz,h]
 |cons p r g=>
  obtain⟨k',j⟩:=p;by_cases h1:k=k'
  ·subst h1;by_cases h:s=k<;>simp[kV,iz,h]
  ·by_cases h:s=k
   ·subst h;simp[kV,iz,h1,g]
   ·by_cases i:s=k'
    ·subst i;simp[kV,iz,h1,h]
    ·simp[kV,iz,h1,h,i,g]
theorem PS.put {o:cL}{n:Nat}{l σ:AS}{i:Nat}{b:bN}(h:PS o n l σ) (d:σ i=none∨ ∃x,l i=some x):PS o n (l.set i b) (σ.set i b):=by
 rcases h with⟨rfl,rfl⟩|⟨q,rfl,g,rfl⟩
 ·exact .inl ⟨rfl,rfl⟩
 ·have j:i≠q:=by
   rintro rfl;rcases d with d|⟨x,d⟩
   ·simp[AS.set]at d
   ·rw[g]at d;cases d
  refine .inr ⟨q,rfl,by simp[AS.set,Ne.symm j,g],?_⟩;exact AS.set_comm (Ne.symm j)
theorem Jt {B:AS}{l i g bh aT:Nat}{a b c d c0 d0 e:bN}(h1:l≠i) (H:l≠g) (G:l≠bh) (F:i≠g) (E:i≠bh) (q:g≠bh) (D:B aT=none) (o:aT≠g) (n:aT≠bh):
 AS.le ((((B.set bh d).set g c).set i b).set l a) (((((((B.set bh d0).set g c0).set aT e).set l a).set g c).set bh d).set i b):=by
 intro j x h;simp only[AS.set]at h⊢;by_cases A:j=l
 ·subst A;simp[*]at h⊢;exact h
 by_cases y:j=i
 ·subst y;simp[*]at h⊢;exact h
 by_cases w:j=g
 ·subst w;simp[*]at h⊢;exact h
 by_cases v:j=bh
 ·subst v;simp[*,Ne.symm q]at h⊢;exact h
 by_cases u:j=aT
 ·subst u;simp[*]at h
 simp[*]at h⊢;exact h
theorem Js {B:AS}{l i g bh aT:Nat}{a b b0 c d c0 d0 e:bN}(h1:l≠i) (H:l≠g) (G:l≠bh) (F:i≠g) (E:i≠bh) (q:g≠bh) (D:B aT=none) (o:aT≠g) (n:aT≠bh):
 AS.le ((((B.set bh d).set g c).set i b).set l a) ((((((((B.set bh d0).set g c0).set i b0).set aT e).set l a).set g c).set bh d).set i b):=by
 intro j x h;simp only[AS.set]at h⊢;by_cases A:j=l
 ·subst A;simp[*]at h⊢;exact h
 by_cases y:j=i
 ·subst y;simp[*]at h⊢;exact h
 by_cases w:j=g
 ·subst w;simp[*]at h⊢;exact h
 by_cases v:j=bh
 ·subst v;simp[*,Ne.symm q]at h⊢;exact h
 by_cases u:j=aT
 ·subst u;simp[*]at h
 simp[*]at h⊢;exact h
def u0 (d:List (List UInt8×Nat)) (o:cL):AV:= .an 3 (d.map fun p=> .sc (.int .i64 p.2)) o false
def Wy (l:List (List UInt8)) (nl:Bool) (q:cL) (B:AS) (g bh:Nat) (m:Nat) (fr:Fr) (σ':AS):Prop:=
 ∃(i:Nat) (p:List UInt8) (d:List (List UInt8×Nat)) (o:cL) (h:List (ByteArray×AV)) (n:AS) (pl:AV),m=l.length-i∧i≤l.length∧tK (l.drop i) p d=tK l [0] []∧d.length=i∧p.length≤1+25*i∧
  (∀s:List UInt8,iz ⟨s.toArray⟩ h=(gW s d).map (fun a=> .sc (.int .i64 (a:Int))))∧
  ((i=0∧pl= .ai∧n=(B.set bh (.map (eO h))).set g (fW p o bh))∨(∃j,0<i∧B j=none∧j≠g∧j≠bh∧pl=u0 d (.tok j)∧n=((B.set bh (.map (eO h))).set g (fW p o bh)).set j (.tok i)))∧
  PS o p.length n σ'∧fr=jJ [(5,.ptr g 0),(6,pl),(12,.an 9 (l.map sV) q nl),(13,.sc (.int .i64 l.length)),(14,.sc (.int .i64 i))]
theorem Je (l:List (List UInt8)) (nl:Bool) (S:cL) (hl:l.length≤1000) (hs:∀s∈l,s.length≤140737488355328) (hf:l.all da=true) (hn:¬65536<(tK l [0] []).1.length) (σ:AS):
 aa Tryz.prog 29 [.an 9 (l.map sV) S nl] σ (ao (.bQ [.an 5 ((tK l [0] []).1.map u8) .aE false,.an 3 ((tK l [0] []).2.map fun p=> .sc (.int .i64 p.2)) .aE (decide (l= [])),.sc (.int .i64 0)]) σ) No:=by
 have hc:=fun σ=>Ct l nl S (by omega) hs σ;rw[hf]at hc;refine aa.ob Tryz.func29 ?_;refine gO gV tI @hc ?_;refine ag.of (Ca _) ?_ (fun _ _ h=>h.elim);rintro r σ1 ⟨g,bh,be,J,G,rfl,rfl⟩;simp-implicitDefEqProofs;refine gO gV tI tI ?_;refine ae.dx (Wy l nl S σ g bh) (k0:=l.length) ⟨0,[0],[],.full,[],_,_,by omega,by omega,rfl,rfl,by simp,fun s=>rfl,.inl ⟨rfl,rfl,rfl⟩,.inl ⟨rfl,rfl⟩,rfl⟩ (aS.mk (by simp)) (lR _) ?_;rintro m fr σ' ⟨i,p,d,o,v,T,pl,hm,hi,E,hd,hp,hk,hC,Q,rfl⟩;have K:bh≠g:=fun e=>G e.symm;have D:T g=some (fW p o bh)∧T bh=some (.map (eO v)):=by
  rcases hC with⟨_,_,rfl⟩|⟨n,_,ht,I,H,_,rfl⟩
  ·simp[K]
  ·simp[K,I.symm,H.symm]
 have hle:=Q.le;have M:=hle _ _ D.1;have X:=hle _ _ D.2;by_cases ac:i<l.length
 ·obtain⟨s,hg,P,ab,_⟩:=iF l ac;obtain⟨_,a4⟩:=List.getElem?_eq_some_iff.1 hg;have hI:((i:Int)<l.length)=True:=by simp;omega
  have bb:s.length≤24:=by have:=List.all_eq_true.1 hf s ab;simp[da]at this;exact this.2.1
  rw[P]at E;simp only[tK]at E;refine gO gV (j4 hI ac @a4 @sV.eq_1) tI ?_;intro aT y;have s1:aT≠g:=nq M y;have s2:aT≠bh:=nq X y;have V:g≠aT:=fun e=>s1 e.symm;have U:bh≠aT:=fun e=>s2 e.symm;refine gO gV tI tI ?_;have L:=Q.put (b:= .cells 9 [sV s]) (.inl y);cases j:gW s d with
  |some a=>
   rw[j]at E;rcases hC with⟨h0,_,_⟩|⟨n,al,O,I,H,rfl,rfl⟩
   ·exfalso;have:d= []:=List.length_eq_zero_iff.1 (by omega);subst this;simp[gW]at j
   ·have ht:σ' n=some (.tok i):=hle n _ (by simp[AS.set]);have s3:aT≠n:=nq ht y;have a1:n≠aT:=fun e=>s3 e.symm;refine ag.aC (E2 g bh p s o v a _ _ (by simp[V,M]) (by simp[U,X]) (by rw[hk,j];rfl)) ?_;simp-implicitDefEqProofs [u0,ht,hd,a1];refine⟨by omega,?_⟩;refine gO gV tI tI ?_;refine⟨m-1,_,σ'.set n (.tok (i+1)),by omega,aS.mk (l:= [(5,.ptr g 0),(6,u0 (d++ [(s,a)]) (.tok n)),(12,.an 9 (l.map sV) S nl),(13,.sc (.int .i64 l.length)),(14,.sc (.int .i64 (i+1:Nat)))]) ?_,?_,i+1,p,d++ [(s,a)],o,v,_,_,by omega,by omega,E,by simp[hd],by omega,?_,.inr ⟨n,by omega,O,I,H,rfl,rfl⟩,?_,rfl⟩
    ·simp[g8 (show i<4000000000000000000 by omega),u0]
    ·exact jn (aq y (lR _)) (by simp)
    ·intro F;rw[hk,qF];by_cases e:F=s
     ·subst e;rw[j]
     ·cases h:gW F d<;>simp[e]
    ·have:=Q.put (i:=n) (b:= .tok (i+1)) (.inr ⟨_,by simp[AS.set];rfl⟩);rwa [AS.set_set]at this
  |none=>
   rw[j]at E;have a2:=E1 g bh p (p++s++ [0]) s o v 70 [.ptr aT 0] (T.set aT (.cells 9 [sV s])) _ G (by simp[V,D.1]) (by simp[U,D.2]) L (by rw[hk,j];rfl) (by omega)
    (GM p s o aT _ _ L (by simp) (by omega) (by omega))
   have af:∀F:List UInt8,iz ⟨F.toArray⟩ (kV ⟨s.toArray⟩ (.sc (.int .i64 p.length)) v)=(gW F (d++ [(s,p.length)])).map (fun a=> .sc (.int .i64 (a:Int))):=by
    intro F;rw[yX,qF];by_cases e:F=s
    ·subst e;rw[j];simp
    ·have:¬((⟨F.toArray⟩:ByteArray)=⟨s.toArray⟩):=by simpa using e
     rw[if_neg this,hk];cases h:gW F d<;>simp[e]
   refine ag.of a2 ?_ (fun _ _ h=>h.elim);rintro r σ2 ⟨u,Y,rfl,rfl⟩;have t1:u≠aT:=by rintro rfl;simp[AS.set]at Y
   have b3:aT≠u:=fun e=>t1 e.symm;have w:T u=none:=by simpa[AS.set,t1]using Y
   have t2:u≠g:=by rintro rfl;rw[D.1]at w;cases w
   have t3:u≠bh:=by rintro rfl;rw[D.2]at w;cases w
   have b2:g≠u:=fun e=>t2 e.symm;have b1:bh≠u:=fun e=>t3 e.symm;have q:T aT=none:=by
    cases hh:T aT with
    |none=>rfl
    |some x=>rw[hle _ _ hh]at y;cases y
   rcases hC with⟨h0,rfl,rfl⟩|⟨n,al,O,I,H,rfl,rfl⟩
   ·have A:σ aT=none:=by simpa[AS.set,s1,s2]using q
    have ap:σ u=none:=by simpa[AS.set,t2,t3]using w
    have a5:d= []:=List.length_eq_zero_iff.1 (by omega);subst a5;simp-implicitDefEqProofs;intro n;intros;have u1:n≠bh:=by assumption
    have u2:n≠g:=by assumption
    have u3:n≠u:=by assumption
    have u5:σ n=none:=by assumption
    have av:u≠n:=fun e=>u3 e.symm;refine gO gV tI tI ?_;refine⟨m-1,_,((((σ.set bh (.map (eO (kV ⟨s.toArray⟩ (.sc (.int .i64 p.length)) v)))).set g (fW (p++s++ [0]) (.tok u) bh)).set n (.tok (i+1))).set u (.tok (p++s++ [0]).length)),by omega,aS.mk (l:= [(5,.ptr g 0),(6,u0 ([]++ [(s,p.length)]) (.tok n)),(12,.an 9 (l.map sV) S nl),(13,.sc (.int .i64 l.length)),(14,.sc (.int .i64 (i+1:Nat)))]) ?_,?_,i+1,p++s++ [0],[]++ [(s,p.length)],.tok u,_,_,_,by omega,by omega,E,by simp[hd,h0],by simp;omega,af,.inr ⟨n,by omega,u5,u2,u1,rfl,rfl⟩,.inr ⟨u,rfl,by simp[AS.set, *],rfl⟩,rfl⟩
    ·simp[g8 (show i<4000000000000000000 by omega),u0]
    ·have:=Jt (B:=σ) (a:= .tok (p++s++ [0]).length) (b:= .tok (i+1)) (c:=fW (p++s++ [0]) (.tok u) bh) (d:= .map (eO (kV ⟨s.toArray⟩ (.sc (.int .i64 p.length)) v))) (c0:=fW p o bh) (d0:= .map (eO v)) (e:= .cells 9 [sV s]) av t2 t3 u2 u1 G A s1 s2;simpa[h0]using this
   ·have A:σ aT=none:=by
     have Z:aT≠n:=by rintro rfl;simp[AS.set]at q
     simpa[AS.set,s1,s2,Z]using q
    have t4:u≠n:=by rintro rfl;simp[AS.set]at w
    have a0:n≠u:=fun e=>t4 e.symm;have ap:σ u=none:=by simpa[AS.set,t2,t3,t4]using w
    have s3:n≠aT:=by rintro rfl;simp[AS.set]at q
    simp-implicitDefEqProofs [u0,I,H,a0,s3,hd];refine⟨by omega,?_⟩;refine gO gV tI tI ?_;refine⟨m-1,_,((((σ.set bh (.map (eO (kV ⟨s.toArray⟩ (.sc (.int .i64 p.length)) v)))).set g (fW (p++s++ [0]) (.tok u) bh)).set n (.tok (i+1))).set u (.tok (p++s++ [0]).length)),by omega,aS.mk (l:= [(5,.ptr g 0),(6,u0 (d++ [(s,p.length)]) (.tok n)),(12,.an 9 (l.map sV) S nl),(13,.sc (.int .i64 l.length)),(14,.sc (.int .i64 (i+1:Nat)))]) ?_,?_,i+1,p++s++ [0],d++ [(s,p.length)],.tok u,_,_,_,by omega,by omega,E,by simp[hd],by simp;omega,af,.inr ⟨n,by omega,O,I,H,rfl,rfl⟩,.inr ⟨u,rfl,by simp[AS.set, *],rfl⟩,rfl⟩
    ·simp[g8 (show i<4000000000000000000 by omega),u0]
    ·have:=Js (B:=σ) (a:= .tok (p++s++ [0]).length) (b:= .tok (i+1)) (b0:= .tok i) (c:=fW (p++s++ [0]) (.tok u) bh) (d:= .map (eO (kV ⟨s.toArray⟩ (.sc (.int .i64 p.length)) v))) (c0:=fW p o bh) (d0:= .map (eO v)) (e:= .cells 9 [sV s]) t4 t2 t3 I H G A s1 s2;simpa[hd]using this
 ·have hI:((i:Int)<l.length)=False:=by simp;omega
  have P:l.drop i= []:=List.drop_eq_nil_of_le (by omega);rw[P]at E;simp only[tK]at E;rw[←E]at hn⊢;simp only at hn⊢;repeat (first
   |(with_reducible first|apply ae.seq|apply ae.block|refine j2 (by first|omega|assumption|decide) ?_)
   |((first|(with_reducible first|apply ae.fork|apply ae.region|show aN _ _ _ |show aB _ _ _ _ _ _ _ _ _)|((with_reducible apply ag.id);first|apply ag.aC (Cq g bh p o _ _ M (by omega) hn)));simp-implicitDefEqProofs [hI])
   |((with_reducible first|apply ae.ret|apply ae.skip|apply ae.exit);try simp-implicitDefEqProofs))
  refine⟨jB (by simp) ?_ (by simp),AS.le_trans ?_ hle⟩
  ·rcases hC with⟨h0,rfl,_⟩|⟨n,al,_,_,_,rfl,_⟩
   ·have h1:d= []:=List.length_eq_zero_iff.1 (by omega);have h2:l= []:=List.length_eq_zero_iff.1 (by omega);subst h1 h2;simp
   ·have h2:decide (l= [])=false:=by
     have:l≠ []:=by rintro rfl;simp at hi;omega
     simp[this]
    rw[h2];simp[u0]
  ·rcases hC with⟨_,_,rfl⟩|⟨n,_,ht,I,H,_,rfl⟩
   ·exact aq (by simp[*]) (aq J (lR _))
   ·exact aq (by simp[*]) (aq (by simp[*]) (aq J (lR _)))
theorem DF (l:List (List UInt8)) (nl:Bool) (d:cL) (hl:l.length≤1000) (h:∀s∈l,s.length≤140737488355328) (hf:l.all da=false) (σ:AS):
 aa Tryz.prog 29 [.an 9 (l.map sV) d nl] σ (ao (.bQ [.ai,.ai,.sc (.int .i64 18)]) σ) No:=by
 have g:=fun σ=>Ct l nl d (by omega) h σ;rw[hf]at g;refine aa.ob Tryz.func29 ?_;exact gE gV tI @g
theorem mw (S:List Nat):aH Tryz.prog [(6,(.step 0 (.step 1 (.step 2 (.step 4 (.step 5 (.step 6 (.read 3 (.read 7 (.step 8 .done))))))))))] S:=mixed
def Wi (l m:List Int) (g d:cL) (n1 n2:Bool) (σ:AS) (k:Nat) (fr:Fr) (σ':AS):Prop:=
 ∃i:Nat,k=l.length-i∧i≤l.length∧decide (l=m)=decide (l.drop i=m.drop i)∧σ'=σ∧
  fr=jJ [(0,.an 3 (l.map aV) g n1),(1,.an 3 (m.map aV) d n2),(5,.sc (.int .i64 i))]
theorem Is (l m:List Int) (E D:cL) (n1 n2:Bool) (hl:l.length≤140737488355328) (hm:m.length≤140737488355328) (σ:AS):
 aa Tryz.prog 41 [.an 3 (l.map aV) E n1,.an 3 (m.map aV) D n2] σ (ao (.sc (.bool (decide (l=m)))) σ) No:=by
 refine aa.ob Tryz.func41 ?_;by_cases hlen:l.length=m.length
 ·have d:(l.length:Int)=m.length:=by omega
  refine gO mw (j2 @hlen @d) tI ?_;refine ae.dx (Wi l m E D n1 n2 σ) (k0:=l.length) ⟨0,by omega,by omega,rfl,rfl,rfl⟩ (aS.mk (by simp)) (lR _) ?_;rintro k fr σ' ⟨i,J,K,u,rfl,rfl⟩;by_cases h:i<l.length
  ·obtain⟨r,G,A,_,_⟩:=iF l h;obtain⟨q,F,y,_,_⟩:=iF m (i:=i) (by omega);obtain⟨_,o⟩:=List.getElem?_eq_some_iff.1 G;obtain⟨g,n⟩:=List.getElem?_eq_some_iff.1 F;have v:((i:Int)<l.length)=True:=by simp;omega
   have j:((i:Int)<m.length)=True:=by simp;omega
   rw[A,y]at u;by_cases he:r=q
   ·subst he;refine gO mw (j7 v @j h @g @o @n @aG) tI ?_;refine⟨k-1,_,_,by omega,aS.mk ?_,lR _,i+1,by omega,by omega,by rw[u];simp,rfl,rfl⟩;simp[g8 (show i<4000000000000000000 by omega)]
   ·refine gO mw (j8 v @j h @g @o @n @aG @he) tI ?_;simp[u,he]
  ·have v:((i:Int)<l.length)=False:=by simp;omega
   have j:((i:Int)<m.length)=False:=by simp;omega
   have I:l.drop i= []:=List.drop_eq_nil_of_le (by omega);have H:m.drop i= []:=List.drop_eq_nil_of_le (by omega);rw[I,H]at u;refine gO mw v tI ?_;simp[u]
 ·have d:¬(l.length:Int)=m.length:=by omega
  have w:¬l=m:=fun e=>hlen (by rw[e]);refine gO mw (j2 @hlen @d) tI ?_;simp[w]
theorem Fk:∀(l:List (List UInt8)) (p:List UInt8) (d:List (List UInt8×Nat)),l.all da=true→(tK l p d).1.length≤p.length+25*l.length:=by
 intro l;induction l with
 |nil=>intro p d _;simp[tK]
 |cons s r g=>
  intro p d h;simp only[List.all_cons,Bool.and_eq_true]at h;have i:s.length≤24:=by have:=h.1;simp[da]at this;exact this.2.1
  simp only[tK];split
  ·rename_i a _;have:=g p (d++ [(s,a)]) h.2;simp at this⊢;omega
  ·have:=g (p++s++ [0]) (d++ [(s,p.length)]) h.2;simp at this⊢;omega
theorem GK (l:List (List UInt8)) (hl:l.length≤1000) (hf:l.all da=true):bX l=((tK l [0] []).1,(tK l [0] []).2.map (fun p=>(p.2:Int)),0):=by have:=Fk l [0] [] hf;unfold bX;rw[if_neg (by simp[hf]),if_neg (by simp at this⊢;omega)]
theorem DG (l:List (List UInt8)) (hf:l.all da=false):bX l=([],[],18):=by unfold bX;rw[if_pos hf]
theorem GJ (l:List (List UInt8)) (nl:Bool) (d:cL) (hl:l.length≤1000) (g:∀s∈l,s.length≤140737488355328) (σ:AS):
 aa Tryz.prog 29 [.an 9 (l.map sV) d nl] σ (ao (.bQ [.an 5 ((bX l).1.map u8) .aE (!l.all da),.an 3 ((bX l).2.1.map aV) .aE (!l.all da||decide (l= [])),.sc (.int .i64 (bX l).2.2)]) σ) No:=by
 cases hf:l.all da with
 |true=>
  rw[GK l hl hf];have:=Fk l [0] [] hf;have h:=Je l nl d hl g hf (by simp at this;omega) σ;have e:(tK l [0] []).2.map (fun p=>(AV.sc (.int .i64 (p.2:Int))))=((tK l [0] []).2.map (fun p=>(p.2:Int))).map aV:=by simp[aG]
  rw[e]at h;simpa using h
 |false=>rw[DG l hf];exact(DF l nl d hl g hf σ).told (jB (by simp) (by simp) (by simp))
theorem ky (S:List Nat):aH Tryz.prog [] S:=mixed
theorem s9 (b:List UInt8) (x k e:Int) (h:pE b=(x,k,e)):0≤e∧e≤2∧(e=0→1≤k∧k≤4∧k≤b.length∧0≤x∧x≤536870911):=by
 unfold pE at h;split at h
 ·cases h;simp
 ·rename_i c r;simp only at h;split at h
  ·cases h;simp
  ·rename_i h0;split at h
   ·cases h;simp
   ·rename_i h1;split at h
    ·rename_i l;simp only[Prod.mk.injEq]at h;obtain⟨rfl,rfl,rfl⟩:=h;refine⟨by omega,by omega,fun _ => ?_⟩;have g:bw c.toNat=1∨bw c.toNat=2∨bw c.toNat=4:=by
      unfold bw at h0⊢;split
      ·simp
      ·split
       ·simp
       ·split
        ·simp
        ·rename_i a b d;simp[a,b,d]at h0
     have hm:0<fE (bw c.toNat)+1∧fE (bw c.toNat)+1≤536870912:=by rcases g with h|h|h<;>rw[h]<;>simp[fE]
     have i:=Int.emod_nonneg (mE ((c::r).take (bw c.toNat).toNat)) (show fE (bw c.toNat)+1≠0 by omega);have j:=Int.emod_lt_of_pos (mE ((c::r).take (bw c.toNat).toNat)) hm.1;refine⟨?_,?_,?_,i,by omega⟩
     ·rcases g with h|h|h<;>omega
     ·rcases g with h|h|h<;>omega
     ·omega
    ·cases h;simp
def jz (b:List UInt8) (at':Int):List UInt8×Int:=
 if at'<0∨b.length≤at' then([],3)else
 if (pE (b.drop at'.toNat)).2.2≠0 then([],(pE (b.drop at'.toNat)).2.2)else
 if (b.length:Int)-at'-(pE (b.drop at'.toNat)).2.1<(pE (b.drop at'.toNat)).1 then([],1)else
 (((b.drop at'.toNat).take ((pE (b.drop at'.toNat)).2.1+(pE (b.drop at'.toNat)).1).toNat).drop (pE (b.drop at'.toNat)).2.1.toNat,0)
theorem MN (b:List UInt8) (nl:Bool) (o:cL) (at':Int) (A:nl=true→b= []) (hl:b.length≤140737488355328) (σ:AS):
 aa Tryz.prog 204 [.an 5 (b.map u8) o nl,.sc (.int .i64 at')] σ (ao (.bQ [.an 5 ((jz b at').1.map u8) .aE (decide ((jz b at').2≠0)),.sc (.int .i64 (jz b at').2)]) σ) No:=by
 refine aa.ob Tryz.func204 ?_;by_cases u:at'<0
 ·have n:jz b at'=([],3):=by simp[jz,u]
  rw[n];exact gE ky @u tI;try exact cq (by simp) (by simp)
 ·by_cases q:b.length≤at'
  ·have n:jz b at'=([],3):=by simp[jz,q]
   rw[n];exact gE ky (j2 @u @q) tI;try exact cq (by simp) (by simp)
  ·have v:nl=false:=by
    cases nl with
    |false=>rfl
    |true=>have:=A rfl;subst this;simp at q;omega
   subst v;have h0:0≤at':=by omega
   have h1:at'.toNat≤b.length:=by omega
   have D:(b.map u8).take b.length=b.map u8:=List.take_of_length_le (by simp);obtain⟨⟨x,k,e⟩,hu⟩:∃t,pE (b.drop at'.toNat)=t:=⟨_,rfl⟩;obtain⟨f1,f2,f3⟩:=s9 _ _ _ _ hu;have n:jz b at'=if e≠0 then([],e)else if (b.length:Int)-at'-k<x then([],1)else(((b.drop at'.toNat).take (k+x).toNat).drop k.toNat,0):=by simp[jz,u,q,hu]
   rw[n];have w:((b.drop at'.toNat).length:Int)=b.length-at':=by simp;omega
   have j:=fun o σ=>oH (b.drop at'.toNat) o false (by simp) (by simp;omega) σ;have d:=fun id σ h=>yK id (b.drop at'.toNat) 0 false σ (by simp) h (by omega) (by omega) (by simp;omega) x k e (by simpa using hu);simp only[List.map_drop]at j;refine gO ky (j5 @u @q @h0 @h1 @D) tI ?_;refine ag.of (j _ _) ?_ (fun _ _ h=>h.elim);rintro r G ⟨id,l,rfl,rfl⟩;generalize b.drop at'.toNat=L at d w n f3⊢;simp-implicitDefEqProofs;by_cases he:e=0
   ·subst he;obtain⟨k1,k4,K,I,H⟩:=f3 rfl;simp only[if_true,Int.zero_add]at d;by_cases y:(b.length:Int)-at'-k<x
    ·have g:=fun σ h=>Bb id L k x false σ h (by omega) (by omega) (by omega) (by simp[pa];split<;>(try split)<;>omega);have E:pa L k x=1:=by unfold pa;rw[if_neg (by omega),if_pos (by omega)]
     simp only[E]at g;refine gO ky tI (j2 (d id) @g) ?_;try simp[y]
     exact aq l (lR _)
    ·have g:=fun σ h=>zw id L k x false σ (by simp) h (by omega) (by omega) (by omega) (by omega) (by omega);refine gO ky tI (d id) ?_;refine ag.of (g _ (by simp)) ?_ (fun _ _ h=>h.elim);rintro r F ⟨J,i,rfl,rfl⟩;simp-implicitDefEqProofs;refine gO ky tI tI ?_;simp[y,cy];simp at i;exact aq (by simp[i]) (aq l (lR _))
   ·refine gO ky @he (d id) ?_;exact aq l (lR _)
end Pl
end Go.Proofs.YtknalmoackcpbaaGreat
